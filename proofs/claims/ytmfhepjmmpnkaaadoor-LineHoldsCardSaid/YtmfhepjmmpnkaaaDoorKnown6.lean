/-
  The chapter's examples of layer 6: known() returns true.
-/
import Derived.Test.YtmfhepjmmpnkaaaDoorLaw6
import Derived.Test.YtmfhepjmmpnkaaaDoorKnown4
set_option linter.unusedSimpArgs false
set_option linter.unusedVariables false
namespace Go.Proofs.YtmfhepjmmpnkaaaDoor
open Go.RowKit

def Sr.cells (cs : List Cell) : Sr := ⟨fun u w => ∃ A c, u = .slice A cs.length c ∧ RdC w A c cs, fun _ _ _ ⟨A, c, h1, h2⟩ hb => ⟨A, c, h1, h2.bel hb⟩⟩
def Sr.rline (cs : List Cell) (s : Bool) : Sr := ⟨fun u w => ∃ A c, u = .agg #[.slice A cs.length c, .bool s] ∧ RdC w A c cs, fun _ _ _ ⟨A, c, h1, h2⟩ hb => ⟨A, c, h1, h2.bel hb⟩⟩
theorem yes_of {f : FuncId} {args : Array Value} {w : World} {b : Bool} (hc : Calls Tryd.prog f args w fun e w' => e = .returned (.bool b) ∧ Below w.heap.size w w') (h : b = true) : Calls Tryd.prog f args w fun e w' => ∃ v, e = .returned v ∧ v = .bool true ∧ Chg noBlk w w' := hc.mono fun e w' ⟨h1, h2⟩ => ⟨_, h1, by rw [h], Chg.of_below h2 _⟩
theorem no_of {f : FuncId} {args : Array Value} {w : World} {b : Bool} (hc : Calls Tryd.prog f args w fun e w' => e = .returned (.bool b) ∧ Below w.heap.size w w') (h : b = false) : Calls Tryd.prog f args w fun e w' => ∃ v, e = .returned v ∧ v = .bool false ∧ Chg noBlk w w' := hc.mono fun e w' ⟨h1, h2⟩ => ⟨_, h1, by rw [h], Chg.of_below h2 _⟩
def cR : Cell := ⟨0, 0, 0, 0, 1, penf 32⟩
/-- The variables of the examples. -/
structure K6 (w : World) (b1 b2 b3 b4 b5 b6 : Nat) : Prop where
  h1 : Blk w b1 30 (cv cA)
  h2 : Blk w b2 30 (cv cW)
  h3 : Blk w b3 30 (cv cell0)
  h4 : Blk w b4 30 (cv cE)
  h5 : Blk w b5 30 (cv cR)
  h6 : Blk w b6 59 #[.slice none 0 0, .bool false]
theorem K6.bel {w w' : World} {b1 b2 b3 b4 b5 b6 : Nat} (h : K6 w b1 b2 b3 b4 b5 b6) (hb : Below w.heap.size w w') : K6 w' b1 b2 b3 b4 b5 b6 := ⟨h.h1.bel hb, h.h2.bel hb, h.h3.bel hb, h.h4.bel hb, h.h5.bel hb, h.h6.bel hb⟩
/-- Four cells laid behind one another, and then filled. -/
def fourZ (w : World) : World := (((w.alloc (.cells (cv ⟨0, 0, 0, 0, 0, pen0⟩) 30)).alloc (.cells (cv ⟨0, 0, 0, 0, 0, pen0⟩) 30)).alloc (.cells (cv ⟨0, 0, 0, 0, 0, pen0⟩) 30)).alloc (.cells (cv ⟨0, 0, 0, 0, 0, pen0⟩) 30)
theorem fourZ_blk (w : World) : Blk (fourZ w) w.heap.size 30 (cv cell0) ∧ Blk (fourZ w) (w.heap.size + 1) 30 (cv cell0) ∧ Blk (fourZ w) (w.heap.size + 1 + 1) 30 (cv cell0) ∧ Blk (fourZ w) (w.heap.size + 1 + 1 + 1) 30 (cv cell0) ∧ Below w.heap.size w (fourZ w) := by
  refine ⟨(((Blk.new _ _ _).alloc _).alloc _).alloc _, ?_, ?_, ?_, ?_⟩
  · refine blk_at ?_ (((Blk.new _ _ _).alloc _).alloc _); simp
  · refine blk_at ?_ ((Blk.new _ _ _).alloc _); simp
  · refine blk_at ?_ (Blk.new _ _ _); simp
  · exact bel1 (bel1 (bel1 (belA _ _)))
theorem below_setRowB {B g : Nat} {w0 w : World} (hb : Below B w0 w) (hBg : B ≤ g) (cs : Array Value) : Below B w0 (w.setRow g cs) :=
  hb.trans ⟨rfl, rfl, rfl, by simp [World.setRow], fun k hk => setRow_other w g k cs (by omega)⟩
def sixW (w : World) : World := ((((((w.alloc (.cells (cv cA) 30)).alloc (.cells (cv cW) 30)).alloc (.cells (cv cell0) 30)).alloc (.cells (cv cE) 30)).alloc (.cells (cv cR) 30)).alloc (.cells #[.slice none 0 0, .bool false] 59))
theorem six_blk (w : World) : K6 (sixW w) w.heap.size (w.heap.size + 1) (w.heap.size + 1 + 1) (w.heap.size + 1 + 1 + 1) (w.heap.size + 1 + 1 + 1 + 1) (w.heap.size + 1 + 1 + 1 + 1 + 1) ∧ Below w.heap.size w (sixW w) := by
  refine ⟨⟨?_, ?_, ?_, ?_, ?_, ?_⟩, bel1 (bel1 (bel1 (bel1 (bel1 (belA _ _)))))⟩
  · exact (((((Blk.new _ _ _).alloc _).alloc _).alloc _).alloc _).alloc _
  · refine blk_at ?_ (((((Blk.new _ _ _).alloc _).alloc _).alloc _).alloc _); simp
  · refine blk_at ?_ ((((Blk.new _ _ _).alloc _).alloc _).alloc _); simp
  · refine blk_at ?_ (((Blk.new _ _ _).alloc _).alloc _); simp
  · refine blk_at ?_ ((Blk.new _ _ _).alloc _); simp
  · refine blk_at ?_ (Blk.new _ _ _); simp
theorem K6.facts3 {w : World} {b1 b2 b3 b4 b5 b6 : Nat} (h : K6 w b1 b2 b3 b4 b5 b6) : (cellAt w b1 0 = some cA ∧ b1 < w.heap.size) ∧ (cellAt w b2 0 = some cW ∧ b2 < w.heap.size) ∧ (cellAt w b3 0 = some cell0 ∧ b3 < w.heap.size) := ⟨⟨h.h1.cellAt, h.h1.lt⟩, ⟨h.h2.cellAt, h.h2.lt⟩, ⟨h.h3.cellAt, h.h3.lt⟩⟩
set_option maxRecDepth 100000 in
set_option maxHeartbeats 8000000 in
theorem l06known_any (w : World) (ht : Tabs w) : Calls Tryd.prog 38 #[] w fun e w' => e = .returned (.bool true) ∧ Below w.heap.size w w' := by
  have HT := Lib.hid ht
  clear ht
  obtain ⟨z0, z1, z2, z3, zb⟩ := fourZ_blk w
  have y1 := z1.rowFar (k := w.heap.size) (by omega) (cv cA)
  have y2 := (z2.rowFar (k := w.heap.size) (by omega) (cv cA)).rowFar (k := w.heap.size + 1) (by omega) (cv cW)
  have y3 := ((z3.rowFar (k := w.heap.size) (by omega) (cv cA)).rowFar (k := w.heap.size + 1) (by omega) (cv cW)).rowFar (k := w.heap.size + 1 + 1) (by omega) (cv cell0)
  have hs0 := store_cv_row (fourZ w) w.heap.size _ cA z0 (by simp [cv_size])
  have hs1 := store_cv_row ((fourZ w).setRow w.heap.size (cv cA)) (w.heap.size + 1) _ cW y1 (by simp [cv_size])
  have hs2 := store_cv_row (((fourZ w).setRow w.heap.size (cv cA)).setRow (w.heap.size + 1) (cv cW)) (w.heap.size + 1 + 1) _ cell0 y2 (by simp [cv_size])
  have hs3 := store_cv_row ((((fourZ w).setRow w.heap.size (cv cA)).setRow (w.heap.size + 1) (cv cW)).setRow (w.heap.size + 1 + 1) (cv cell0)) (w.heap.size + 1 + 1 + 1) _ cE y3 (by simp [cv_size])
  unfold fourZ at hs0 hs1 hs2 hs3
  clear z0 z1 z2 z3 y1 y2 y3 zb
  simp only [cA, cW, cE, cell0] at hs0 hs1 hs2 hs3
  go_enter Tryd.func38, Tryd.ntmps38
  go_upto_region 3 with (fail)
  clear hs0 hs1 hs2 hs3
  go_cut [1, 2, 3, 4, 5, 6] from 9 (fun s1 s2 s3 s4 s5 s6 wc => ∃ b1 b2 b3 b4 b5 b6 : Nat, s1 = .pointer (some ⟨b1, 0, none⟩) ∧ s2 = .pointer (some ⟨b2, 0, none⟩) ∧ s3 = .pointer (some ⟨b3, 0, none⟩) ∧ s4 = .pointer (some ⟨b4, 0, none⟩) ∧ s5 = .pointer (some ⟨b5, 0, none⟩) ∧ s6 = .pointer (some ⟨b6, 0, none⟩) ∧ K6 wc b1 b2 b3 b4 b5 b6 ∧ Below w.heap.size w wc)
  case first =>
    go_wp2_with fail
    go_meet
    case rel => exact ⟨_, _, _, _, _, _, rfl, rfl, rfl, rfl, rfl, rfl, (six_blk w).1, (six_blk w).2⟩
  case rest =>
  obtain ⟨b1, b2, b3, b4, b5, b6, rfl, rfl, rfl, rfl, rfl, rfl, hk6, hb6⟩ := hcut
  have K0 := Lib.hid hk6
  have HB0 := Lib.hid hb6
  obtain ⟨⟨f1, l1⟩, ⟨f2, l2⟩, ⟨f3, l3⟩⟩ := hk6.facts3
  clear hk6 hb6
  go_wp2_with (refine wpList_bs3 rfl _ _ _ rfl _ _ _ rfl rfl rfl ?_)
  refine (l06hard_any _ _ _ _).mono ?_
  rintro e w1 ⟨rfl, hb⟩
  have hb1 := bel1 hb
  have K1 := Lib.hid (K0.out.bel hb1)
  have R1 := Lib.hid ((RdC.lit wc [cA, cW, cell0]).bel hb)
  have HB1 := Lib.hid (HB0.out.trans (hb1.mono HB0.out.size))
  clear hb hb1 f1 l1 f2 l2 f3 l3 K0 HB0
  go_upto_region 6 with (fail)
  have K7 := Lib.hid (Blk.new w1 59 #[.slice (some ⟨wc.heap.size, 0, none⟩) 3 3, .bool true])
  have K0 := Lib.hid (K1.out.bel (belA w1 (.cells #[.slice (some ⟨wc.heap.size, 0, none⟩) 3 3, .bool true] 59)))
  have R7 := Lib.hid (R1.out.bel (belA w1 (.cells #[.slice (some ⟨wc.heap.size, 0, none⟩) 3 3, .bool true] 59)))
  have HB := Lib.hid (HB1.out.trans ((belA w1 (.cells #[.slice (some ⟨wc.heap.size, 0, none⟩) 3 3, .bool true] 59)).mono HB1.out.size))
  generalize w1.alloc (.cells #[.slice (some ⟨wc.heap.size, 0, none⟩) 3 3, .bool true] 59) = W at K7 K0 R7 HB ⊢
  generalize w1.heap.size = b7 at K7 ⊢
  generalize wc.heap.size = g7 at K7 R7 ⊢
  clear K1 R1 HB1
  refine wp_region_multi (by kernel_rfl) (by kernel_rfl) (by kernel_rfl) (fun i => none) (fun i k h => ?_) (noBlk) [Sr.val (.agg (cv cE)), Sr.val (.agg (cv cE)), Sr.cells [cE, cE], Sr.rline [cE, cE] false, Sr.val (.bool true), Sr.val (.bool false), Sr.val (.bool false), Sr.val (.agg #[.slice none 0 0, .bool false]), Sr.val (.bool true), Sr.val (.bool false), Sr.val (.bool false), Sr.val (.bool false), Sr.val (.agg (cv cA)), Sr.val (.agg (cv cW)), Sr.val (.agg (cv cell0)), Sr.cells [cA, cW, cell0], Sr.cells [cA, cW, cell0], Sr.val (.agg #[.slice (some ⟨g7, 0, none⟩) 3 3, .bool true]), Sr.val (.bool true), Sr.val (.bool false), Sr.val (.bool false), Sr.val (.bool false), Sr.val (.agg (cv cA)), Sr.val (.agg (cv cW)), Sr.cells [cA, cW], Sr.cells [cA, cW], Sr.val (.agg #[.slice none 0 0, .bool false]), Sr.val (.bool true), Sr.val (.bool false), Sr.val (.bool false), Sr.val (.bool false), Sr.val (.agg (cv cW)), Sr.val (.agg (cv cell0)), Sr.val (.agg (cv cE)), Sr.cells [cW, cell0, cE], Sr.rline [cW, cell0, cE] false, Sr.val (.bool true), Sr.val (.bool false), Sr.val (.bool false)] [] [] (fun p hp => by cases hp) (fun p hp => by cases hp) (fun p hp => by cases hp) (fun p hp => by cases hp) ?_ ?_ ?_
  · cases h
  · intro q hq
    cases hq
  · refine RSteps.cons (fun a w' hc hp hk => ?_) ?_
    · have e4 : a.tmps.getD 4 undef = (.pointer (some ⟨b4, 0, none⟩) : Value) := (rk_same hk 4 (by kernel_rfl)).trans rfl
      have f4 := gd e4
      have hx := (K0.out.bel (chg_none hc)).h4.cellAt
      exact ro_pure (v := .agg (cv cE)) (wanted_none rfl) (by simp [execOp, Act.eval, e4, f4, go_sem, hx]) rfl (Chg.refl _ _)
    refine RSteps.cons (fun a w' hc hp hk => ?_) ?_
    · have e4 : a.tmps.getD 4 undef = (.pointer (some ⟨b4, 0, none⟩) : Value) := (rk_same hk 4 (by kernel_rfl)).trans rfl
      have f4 := gd e4
      have hx := (K0.out.bel (chg_none hc)).h4.cellAt
      exact ro_pure (v := .agg (cv cE)) (wanted_none rfl) (by simp [execOp, Act.eval, e4, f4, go_sem, hx]) rfl (Chg.refl _ _)
    refine RSteps.cons (fun a w' hc hp hk => ?_) ?_
    · have e22 : a.tmps.getD 22 undef = (.agg (cv cE) : Value) := (rk_at hk (e := ⟨0, .data⟩) (by simp) rfl rfl rfl)
      have f22 := gd e22
      have e23 : a.tmps.getD 23 undef = (.agg (cv cE) : Value) := (rk_at hk (e := ⟨1, .data⟩) (by simp) rfl rfl rfl)
      have f23 := gd e23
      exact rstep_value (wanted_none rfl) (exec_bs rfl (by simp only [List.map_toArray, List.map_cons, List.map_nil, Act.eval, e22, e23]) (run_bs2 cE cE w')) ⟨_, _, rfl, RdC.lit w' [cE, cE]⟩ (Chg.of_below (belA _ _) _)
    refine RSteps.cons (fun a w' hc hp hk => ?_) ?_
    · obtain ⟨A24, c24, e24, r24⟩ : ∃ A c, (a.tmps.getD 24 undef) = .slice A ([cE, cE] : List Cell).length c ∧ RdC w' A c [cE, cE] := (rk_at hk (e := ⟨2, .data⟩) (by simp) rfl rfl rfl)
      have HW := HB.out.trans ((chg_none hc).mono HB.out.size)
      exact ro_call (wanted_none rfl) rfl (by simp only [List.map_toArray, List.map_cons, List.map_nil, Act.eval, e24] <;> rfl) (fun _ _ => by kernel_rfl) ((l06hard_any A24 ([cE, cE] : List Cell).length c24 w').mono fun e w2 ⟨h1, h2⟩ => ⟨_, h1, ⟨A24, c24, rfl, (r24 : RdC w' A24 c24 [cE, cE]).bel h2⟩, Chg.of_below h2 _⟩)
    refine RSteps.cons (fun a w' hc hp hk => ?_) ?_
    · obtain ⟨A25, c25, e25, r25⟩ : ∃ A c, (a.tmps.getD 25 undef) = .agg #[.slice A ([cE, cE] : List Cell).length c, .bool false] ∧ RdC w' A c [cE, cE] := (rk_at hk (e := ⟨3, .data⟩) (by simp) rfl rfl rfl)
      have HW := HB.out.trans ((chg_none hc).mono HB.out.size)
      exact ro_call (wanted_none rfl) rfl (by simp only [List.map_toArray, List.map_cons, List.map_nil, Act.eval, e25] <;> rfl) (fun _ _ => by kernel_rfl) (yes_of (l06news_any 2 (empties 2) false 0 A25 c25 [cE, cE] false 0 w' (fun w3 hb3 => lineNew_yes 2 (by decide) w3) r25 (by decide) (by decide)) (by decide +kernel))
    refine RSteps.cons (fun a w' hc hp hk => ?_) ?_
    · have e26 : a.tmps.getD 26 undef = (.bool true : Value) := (rk_at hk (e := ⟨4, .data⟩) (by simp) rfl rfl rfl)
      have f26 := gd e26
      exact ro_pure (v := .bool false) (wanted_none rfl) (by simp [execOp, Act.eval, e26, f26, go_sem]) rfl (Chg.refl _ _)
    refine RSteps.cons (fun a w' hc hp hk => ?_) ?_
    · have e27 : a.tmps.getD 27 undef = (.bool false : Value) := (rk_at hk (e := ⟨5, .data⟩) (by simp) rfl rfl rfl)
      have f27 := gd e27
      exact ro_pure (v := .bool false) (wanted_none rfl) (by simp [execOp, Act.eval, e27, f27, go_sem]) rfl (Chg.refl _ _)
    refine RSteps.cons (fun a w' hc hp hk => ?_) ?_
    · have e6 : a.tmps.getD 6 undef = (.pointer (some ⟨b6, 0, none⟩) : Value) := (rk_same hk 6 (by kernel_rfl)).trans rfl
      have f6 := gd e6
      have hx := ((K0.out.h6).bel (chg_none hc)).cell
      exact ro_pure (v := .agg #[.slice none 0 0, .bool false]) (wanted_yes rfl rfl rfl (show _ = _ from rk_at hk (e := ⟨6, .guard⟩) (by simp) rfl rfl rfl)) (by simp [execOp, Act.eval, e6, f6, go_sem, hx]) rfl (Chg.refl _ _)
    refine RSteps.cons (fun a w' hc hp hk => ?_) ?_
    · have e29 : a.tmps.getD 29 undef = (.agg #[.slice none 0 0, .bool false] : Value) := (rk_at hk (e := ⟨7, .data⟩) (by simp) rfl rfl rfl)
      have f29 := gd e29
      have HW := HB.out.trans ((chg_none hc).mono HB.out.size)
      exact ro_call (wanted_yes rfl rfl rfl (show _ = _ from rk_at hk (e := ⟨6, .guard⟩) (by simp) rfl rfl rfl)) rfl (by simp only [List.map_toArray, List.map_cons, List.map_nil, Act.eval, e29] <;> rfl) (fun _ _ => by kernel_rfl) (yes_of (l06news_any 1001 [] false 2 (none) 0 [] false 2 w' (fun w3 hb3 => lineNew_no 1001 (.inr (by decide)) w3) (RdC.nil w') (by decide) (by decide)) (by decide +kernel))
    refine RSteps.cons (fun a w' hc hp hk => ?_) ?_
    · have e30 : a.tmps.getD 30 undef = (.bool true : Value) := (rk_at hk (e := ⟨8, .data⟩) (by simp) rfl rfl rfl)
      have f30 := gd e30
      exact ro_pure (v := .bool false) (wanted_yes rfl rfl rfl (show _ = _ from rk_at hk (e := ⟨6, .guard⟩) (by simp) rfl rfl rfl)) (by simp [execOp, Act.eval, e30, f30, go_sem]) rfl (Chg.refl _ _)
    refine RSteps.cons (fun a w' hc hp hk => ?_) ?_
    · have e28 : a.tmps.getD 28 undef = (.bool false : Value) := (rk_at hk (e := ⟨6, .data⟩) (by simp) rfl rfl rfl)
      have f28 := gd e28
      have e31 : a.tmps.getD 31 undef = (.bool false : Value) := (rk_at hk (e := ⟨9, .data⟩) (by simp) rfl rfl rfl)
      have f31 := gd e31
      exact ro_pure (v := .bool false) (wanted_none rfl) (by simp [execOp, Act.eval, e28, f28, e31, f31, go_sem]) rfl (Chg.refl _ _)
    refine RSteps.cons (fun a w' hc hp hk => ?_) ?_
    · have e32 : a.tmps.getD 32 undef = (.bool false : Value) := (rk_at hk (e := ⟨10, .data⟩) (by simp) rfl rfl rfl)
      have f32 := gd e32
      exact ro_pure (v := .bool false) (wanted_none rfl) (by simp [execOp, Act.eval, e32, f32, go_sem]) rfl (Chg.refl _ _)
    refine RSteps.cons (fun a w' hc hp hk => ?_) ?_
    · have e1 : a.tmps.getD 1 undef = (.pointer (some ⟨b1, 0, none⟩) : Value) := (rk_same hk 1 (by kernel_rfl)).trans rfl
      have f1 := gd e1
      have hx := (K0.out.bel (chg_none hc)).h1.cellAt
      exact ro_pure (v := .agg (cv cA)) (wanted_yes rfl rfl rfl (show _ = _ from rk_at hk (e := ⟨11, .guard⟩) (by simp) rfl rfl rfl)) (by simp [execOp, Act.eval, e1, f1, go_sem, hx]) rfl (Chg.refl _ _)
    refine RSteps.cons (fun a w' hc hp hk => ?_) ?_
    · have e2 : a.tmps.getD 2 undef = (.pointer (some ⟨b2, 0, none⟩) : Value) := (rk_same hk 2 (by kernel_rfl)).trans rfl
      have f2 := gd e2
      have hx := (K0.out.bel (chg_none hc)).h2.cellAt
      exact ro_pure (v := .agg (cv cW)) (wanted_yes rfl rfl rfl (show _ = _ from rk_at hk (e := ⟨11, .guard⟩) (by simp) rfl rfl rfl)) (by simp [execOp, Act.eval, e2, f2, go_sem, hx]) rfl (Chg.refl _ _)
    refine RSteps.cons (fun a w' hc hp hk => ?_) ?_
    · have e3 : a.tmps.getD 3 undef = (.pointer (some ⟨b3, 0, none⟩) : Value) := (rk_same hk 3 (by kernel_rfl)).trans rfl
      have f3 := gd e3
      have hx := (K0.out.bel (chg_none hc)).h3.cellAt
      exact ro_pure (v := .agg (cv cell0)) (wanted_yes rfl rfl rfl (show _ = _ from rk_at hk (e := ⟨11, .guard⟩) (by simp) rfl rfl rfl)) (by simp [execOp, Act.eval, e3, f3, go_sem, hx]) rfl (Chg.refl _ _)
    refine RSteps.cons (fun a w' hc hp hk => ?_) ?_
    · have e34 : a.tmps.getD 34 undef = (.agg (cv cA) : Value) := (rk_at hk (e := ⟨12, .data⟩) (by simp) rfl rfl rfl)
      have f34 := gd e34
      have e35 : a.tmps.getD 35 undef = (.agg (cv cW) : Value) := (rk_at hk (e := ⟨13, .data⟩) (by simp) rfl rfl rfl)
      have f35 := gd e35
      have e36 : a.tmps.getD 36 undef = (.agg (cv cell0) : Value) := (rk_at hk (e := ⟨14, .data⟩) (by simp) rfl rfl rfl)
      have f36 := gd e36
      exact rstep_value (wanted_yes rfl rfl rfl (show _ = _ from rk_at hk (e := ⟨11, .guard⟩) (by simp) rfl rfl rfl)) (exec_bs rfl (by simp only [List.map_toArray, List.map_cons, List.map_nil, Act.eval, e34, e35, e36]) (run_bs3 cA cW cell0 w')) ⟨_, _, rfl, RdC.lit w' [cA, cW, cell0]⟩ (Chg.of_below (belA _ _) _)
    refine RSteps.cons (fun a w' hc hp hk => ?_) ?_
    · obtain ⟨A37, c37, e37, r37⟩ : ∃ A c, (a.tmps.getD 37 undef) = .slice A ([cA, cW, cell0] : List Cell).length c ∧ RdC w' A c [cA, cW, cell0] := (rk_at hk (e := ⟨15, .data⟩) (by simp) rfl rfl rfl)
      have HW := HB.out.trans ((chg_none hc).mono HB.out.size)
      exact ro_call (wanted_yes rfl rfl rfl (show _ = _ from rk_at hk (e := ⟨11, .guard⟩) (by simp) rfl rfl rfl)) rfl (by simp only [List.map_toArray, List.map_cons, List.map_nil, Act.eval, e37] <;> rfl) (fun _ _ => by kernel_rfl) ((l06list_any A37 _ c37 w').mono fun e w2 ⟨h1, h2⟩ => ⟨_, h1, ⟨A37, c37, rfl, h2 ▸ r37⟩, h2 ▸ Chg.refl _ _⟩)
    refine RSteps.cons (fun a w' hc hp hk => ?_) ?_
    · have e7 : a.tmps.getD 7 undef = (.pointer (some ⟨b7, 0, none⟩) : Value) := (rk_same hk 7 (by kernel_rfl)).trans rfl
      have f7 := gd e7
      have hx := (K7.out.bel (chg_none hc)).cell
      exact ro_pure (v := .agg #[.slice (some ⟨g7, 0, none⟩) 3 3, .bool true]) (wanted_yes rfl rfl rfl (show _ = _ from rk_at hk (e := ⟨11, .guard⟩) (by simp) rfl rfl rfl)) (by simp [execOp, Act.eval, e7, f7, go_sem, hx]) rfl (Chg.refl _ _)
    refine RSteps.cons (fun a w' hc hp hk => ?_) ?_
    · have e39 : a.tmps.getD 39 undef = (.agg #[.slice (some ⟨g7, 0, none⟩) 3 3, .bool true] : Value) := (rk_at hk (e := ⟨17, .data⟩) (by simp) rfl rfl rfl)
      have f39 := gd e39
      obtain ⟨A38, c38, e38, r38⟩ : ∃ A c, (a.tmps.getD 38 undef) = .slice A ([cA, cW, cell0] : List Cell).length c ∧ RdC w' A c [cA, cW, cell0] := (rk_at hk (e := ⟨16, .data⟩) (by simp) rfl rfl rfl)
      have HW := HB.out.trans ((chg_none hc).mono HB.out.size)
      exact ro_call (wanted_yes rfl rfl rfl (show _ = _ from rk_at hk (e := ⟨11, .guard⟩) (by simp) rfl rfl rfl)) rfl (by simp only [List.map_toArray, List.map_cons, List.map_nil, Act.eval, e38, e39] <;> rfl) (fun _ _ => by kernel_rfl) (yes_of (l06of_any A38 ([cA, cW, cell0] : List Cell).length c38 true (ofLine [cA, cW, cell0] true).1 (ofLine [cA, cW, cell0] true).2.1 (ofLine [cA, cW, cell0] true).2.2 ((some ⟨g7, 0, none⟩)) 3 [cA, cW, cell0] true 0 w' (fun w3 hb3 => lineOf_any A38 c38 [cA, cW, cell0] true w3 ((HT.out.bel HW).bel hb3) (r38.bel hb3) (by decide)) (R7.out.bel (chg_none hc)) (by decide +kernel) (by decide)) (by decide +kernel))
    refine RSteps.cons (fun a w' hc hp hk => ?_) ?_
    · have e40 : a.tmps.getD 40 undef = (.bool true : Value) := (rk_at hk (e := ⟨18, .data⟩) (by simp) rfl rfl rfl)
      have f40 := gd e40
      exact ro_pure (v := .bool false) (wanted_yes rfl rfl rfl (show _ = _ from rk_at hk (e := ⟨11, .guard⟩) (by simp) rfl rfl rfl)) (by simp [execOp, Act.eval, e40, f40, go_sem]) rfl (Chg.refl _ _)
    refine RSteps.cons (fun a w' hc hp hk => ?_) ?_
    · have e33 : a.tmps.getD 33 undef = (.bool false : Value) := (rk_at hk (e := ⟨11, .data⟩) (by simp) rfl rfl rfl)
      have f33 := gd e33
      have e41 : a.tmps.getD 41 undef = (.bool false : Value) := (rk_at hk (e := ⟨19, .data⟩) (by simp) rfl rfl rfl)
      have f41 := gd e41
      exact ro_pure (v := .bool false) (wanted_none rfl) (by simp [execOp, Act.eval, e33, f33, e41, f41, go_sem]) rfl (Chg.refl _ _)
    refine RSteps.cons (fun a w' hc hp hk => ?_) ?_
    · have e42 : a.tmps.getD 42 undef = (.bool false : Value) := (rk_at hk (e := ⟨20, .data⟩) (by simp) rfl rfl rfl)
      have f42 := gd e42
      exact ro_pure (v := .bool false) (wanted_none rfl) (by simp [execOp, Act.eval, e42, f42, go_sem]) rfl (Chg.refl _ _)
    refine RSteps.cons (fun a w' hc hp hk => ?_) ?_
    · have e1 : a.tmps.getD 1 undef = (.pointer (some ⟨b1, 0, none⟩) : Value) := (rk_same hk 1 (by kernel_rfl)).trans rfl
      have f1 := gd e1
      have hx := (K0.out.bel (chg_none hc)).h1.cellAt
      exact ro_pure (v := .agg (cv cA)) (wanted_yes rfl rfl rfl (show _ = _ from rk_at hk (e := ⟨21, .guard⟩) (by simp) rfl rfl rfl)) (by simp [execOp, Act.eval, e1, f1, go_sem, hx]) rfl (Chg.refl _ _)
    refine RSteps.cons (fun a w' hc hp hk => ?_) ?_
    · have e2 : a.tmps.getD 2 undef = (.pointer (some ⟨b2, 0, none⟩) : Value) := (rk_same hk 2 (by kernel_rfl)).trans rfl
      have f2 := gd e2
      have hx := (K0.out.bel (chg_none hc)).h2.cellAt
      exact ro_pure (v := .agg (cv cW)) (wanted_yes rfl rfl rfl (show _ = _ from rk_at hk (e := ⟨21, .guard⟩) (by simp) rfl rfl rfl)) (by simp [execOp, Act.eval, e2, f2, go_sem, hx]) rfl (Chg.refl _ _)
    refine RSteps.cons (fun a w' hc hp hk => ?_) ?_
    · have e44 : a.tmps.getD 44 undef = (.agg (cv cA) : Value) := (rk_at hk (e := ⟨22, .data⟩) (by simp) rfl rfl rfl)
      have f44 := gd e44
      have e45 : a.tmps.getD 45 undef = (.agg (cv cW) : Value) := (rk_at hk (e := ⟨23, .data⟩) (by simp) rfl rfl rfl)
      have f45 := gd e45
      exact rstep_value (wanted_yes rfl rfl rfl (show _ = _ from rk_at hk (e := ⟨21, .guard⟩) (by simp) rfl rfl rfl)) (exec_bs rfl (by simp only [List.map_toArray, List.map_cons, List.map_nil, Act.eval, e44, e45]) (run_bs2 cA cW w')) ⟨_, _, rfl, RdC.lit w' [cA, cW]⟩ (Chg.of_below (belA _ _) _)
    refine RSteps.cons (fun a w' hc hp hk => ?_) ?_
    · obtain ⟨A46, c46, e46, r46⟩ : ∃ A c, (a.tmps.getD 46 undef) = .slice A ([cA, cW] : List Cell).length c ∧ RdC w' A c [cA, cW] := (rk_at hk (e := ⟨24, .data⟩) (by simp) rfl rfl rfl)
      have HW := HB.out.trans ((chg_none hc).mono HB.out.size)
      exact ro_call (wanted_yes rfl rfl rfl (show _ = _ from rk_at hk (e := ⟨21, .guard⟩) (by simp) rfl rfl rfl)) rfl (by simp only [List.map_toArray, List.map_cons, List.map_nil, Act.eval, e46] <;> rfl) (fun _ _ => by kernel_rfl) ((l06list_any A46 _ c46 w').mono fun e w2 ⟨h1, h2⟩ => ⟨_, h1, ⟨A46, c46, rfl, h2 ▸ r46⟩, h2 ▸ Chg.refl _ _⟩)
    refine RSteps.cons (fun a w' hc hp hk => ?_) ?_
    · have e6 : a.tmps.getD 6 undef = (.pointer (some ⟨b6, 0, none⟩) : Value) := (rk_same hk 6 (by kernel_rfl)).trans rfl
      have f6 := gd e6
      have hx := ((K0.out.h6).bel (chg_none hc)).cell
      exact ro_pure (v := .agg #[.slice none 0 0, .bool false]) (wanted_yes rfl rfl rfl (show _ = _ from rk_at hk (e := ⟨21, .guard⟩) (by simp) rfl rfl rfl)) (by simp [execOp, Act.eval, e6, f6, go_sem, hx]) rfl (Chg.refl _ _)
    refine RSteps.cons (fun a w' hc hp hk => ?_) ?_
    · have e48 : a.tmps.getD 48 undef = (.agg #[.slice none 0 0, .bool false] : Value) := (rk_at hk (e := ⟨26, .data⟩) (by simp) rfl rfl rfl)
      have f48 := gd e48
      obtain ⟨A47, c47, e47, r47⟩ : ∃ A c, (a.tmps.getD 47 undef) = .slice A ([cA, cW] : List Cell).length c ∧ RdC w' A c [cA, cW] := (rk_at hk (e := ⟨25, .data⟩) (by simp) rfl rfl rfl)
      have HW := HB.out.trans ((chg_none hc).mono HB.out.size)
      exact ro_call (wanted_yes rfl rfl rfl (show _ = _ from rk_at hk (e := ⟨21, .guard⟩) (by simp) rfl rfl rfl)) rfl (by simp only [List.map_toArray, List.map_cons, List.map_nil, Act.eval, e47, e48] <;> rfl) (fun _ _ => by kernel_rfl) (yes_of (l06of_any A47 ([cA, cW] : List Cell).length c47 false (ofLine [cA, cW] false).1 (ofLine [cA, cW] false).2.1 (ofLine [cA, cW] false).2.2 (none) 0 [] false 2 w' (fun w3 hb3 => lineOf_any A47 c47 [cA, cW] false w3 ((HT.out.bel HW).bel hb3) (r47.bel hb3) (by decide)) (RdC.nil w') (by decide +kernel) (by decide)) (by decide +kernel))
    refine RSteps.cons (fun a w' hc hp hk => ?_) ?_
    · have e49 : a.tmps.getD 49 undef = (.bool true : Value) := (rk_at hk (e := ⟨27, .data⟩) (by simp) rfl rfl rfl)
      have f49 := gd e49
      exact ro_pure (v := .bool false) (wanted_yes rfl rfl rfl (show _ = _ from rk_at hk (e := ⟨21, .guard⟩) (by simp) rfl rfl rfl)) (by simp [execOp, Act.eval, e49, f49, go_sem]) rfl (Chg.refl _ _)
    refine RSteps.cons (fun a w' hc hp hk => ?_) ?_
    · have e43 : a.tmps.getD 43 undef = (.bool false : Value) := (rk_at hk (e := ⟨21, .data⟩) (by simp) rfl rfl rfl)
      have f43 := gd e43
      have e50 : a.tmps.getD 50 undef = (.bool false : Value) := (rk_at hk (e := ⟨28, .data⟩) (by simp) rfl rfl rfl)
      have f50 := gd e50
      exact ro_pure (v := .bool false) (wanted_none rfl) (by simp [execOp, Act.eval, e43, f43, e50, f50, go_sem]) rfl (Chg.refl _ _)
    refine RSteps.cons (fun a w' hc hp hk => ?_) ?_
    · have e51 : a.tmps.getD 51 undef = (.bool false : Value) := (rk_at hk (e := ⟨29, .data⟩) (by simp) rfl rfl rfl)
      have f51 := gd e51
      exact ro_pure (v := .bool false) (wanted_none rfl) (by simp [execOp, Act.eval, e51, f51, go_sem]) rfl (Chg.refl _ _)
    refine RSteps.cons (fun a w' hc hp hk => ?_) ?_
    · have e2 : a.tmps.getD 2 undef = (.pointer (some ⟨b2, 0, none⟩) : Value) := (rk_same hk 2 (by kernel_rfl)).trans rfl
      have f2 := gd e2
      have hx := (K0.out.bel (chg_none hc)).h2.cellAt
      exact ro_pure (v := .agg (cv cW)) (wanted_yes rfl rfl rfl (show _ = _ from rk_at hk (e := ⟨30, .guard⟩) (by simp) rfl rfl rfl)) (by simp [execOp, Act.eval, e2, f2, go_sem, hx]) rfl (Chg.refl _ _)
    refine RSteps.cons (fun a w' hc hp hk => ?_) ?_
    · have e3 : a.tmps.getD 3 undef = (.pointer (some ⟨b3, 0, none⟩) : Value) := (rk_same hk 3 (by kernel_rfl)).trans rfl
      have f3 := gd e3
      have hx := (K0.out.bel (chg_none hc)).h3.cellAt
      exact ro_pure (v := .agg (cv cell0)) (wanted_yes rfl rfl rfl (show _ = _ from rk_at hk (e := ⟨30, .guard⟩) (by simp) rfl rfl rfl)) (by simp [execOp, Act.eval, e3, f3, go_sem, hx]) rfl (Chg.refl _ _)
    refine RSteps.cons (fun a w' hc hp hk => ?_) ?_
    · have e4 : a.tmps.getD 4 undef = (.pointer (some ⟨b4, 0, none⟩) : Value) := (rk_same hk 4 (by kernel_rfl)).trans rfl
      have f4 := gd e4
      have hx := (K0.out.bel (chg_none hc)).h4.cellAt
      exact ro_pure (v := .agg (cv cE)) (wanted_yes rfl rfl rfl (show _ = _ from rk_at hk (e := ⟨30, .guard⟩) (by simp) rfl rfl rfl)) (by simp [execOp, Act.eval, e4, f4, go_sem, hx]) rfl (Chg.refl _ _)
    refine RSteps.cons (fun a w' hc hp hk => ?_) ?_
    · have e53 : a.tmps.getD 53 undef = (.agg (cv cW) : Value) := (rk_at hk (e := ⟨31, .data⟩) (by simp) rfl rfl rfl)
      have f53 := gd e53
      have e54 : a.tmps.getD 54 undef = (.agg (cv cell0) : Value) := (rk_at hk (e := ⟨32, .data⟩) (by simp) rfl rfl rfl)
      have f54 := gd e54
      have e55 : a.tmps.getD 55 undef = (.agg (cv cE) : Value) := (rk_at hk (e := ⟨33, .data⟩) (by simp) rfl rfl rfl)
      have f55 := gd e55
      exact rstep_value (wanted_yes rfl rfl rfl (show _ = _ from rk_at hk (e := ⟨30, .guard⟩) (by simp) rfl rfl rfl)) (exec_bs rfl (by simp only [List.map_toArray, List.map_cons, List.map_nil, Act.eval, e53, e54, e55]) (run_bs3 cW cell0 cE w')) ⟨_, _, rfl, RdC.lit w' [cW, cell0, cE]⟩ (Chg.of_below (belA _ _) _)
    refine RSteps.cons (fun a w' hc hp hk => ?_) ?_
    · obtain ⟨A56, c56, e56, r56⟩ : ∃ A c, (a.tmps.getD 56 undef) = .slice A ([cW, cell0, cE] : List Cell).length c ∧ RdC w' A c [cW, cell0, cE] := (rk_at hk (e := ⟨34, .data⟩) (by simp) rfl rfl rfl)
      have HW := HB.out.trans ((chg_none hc).mono HB.out.size)
      exact ro_call (wanted_yes rfl rfl rfl (show _ = _ from rk_at hk (e := ⟨30, .guard⟩) (by simp) rfl rfl rfl)) rfl (by simp only [List.map_toArray, List.map_cons, List.map_nil, Act.eval, e56] <;> rfl) (fun _ _ => by kernel_rfl) ((l06hard_any A56 ([cW, cell0, cE] : List Cell).length c56 w').mono fun e w2 ⟨h1, h2⟩ => ⟨_, h1, ⟨A56, c56, rfl, (r56 : RdC w' A56 c56 [cW, cell0, cE]).bel h2⟩, Chg.of_below h2 _⟩)
    refine RSteps.cons (fun a w' hc hp hk => ?_) ?_
    · obtain ⟨A57, c57, e57, r57⟩ : ∃ A c, (a.tmps.getD 57 undef) = .agg #[.slice A ([cW, cell0, cE] : List Cell).length c, .bool false] ∧ RdC w' A c [cW, cell0, cE] := (rk_at hk (e := ⟨35, .data⟩) (by simp) rfl rfl rfl)
      have HW := HB.out.trans ((chg_none hc).mono HB.out.size)
      exact ro_call (wanted_yes rfl rfl rfl (show _ = _ from rk_at hk (e := ⟨30, .guard⟩) (by simp) rfl rfl rfl)) rfl (by simp only [List.map_toArray, List.map_cons, List.map_nil, Act.eval, e57] <;> rfl) (fun _ _ => by kernel_rfl) (yes_of (lineValid_any A57 c57 [cW, cell0, cE] false w' (HT.out.bel HW) r57 (by decide)) (by decide +kernel))
    refine RSteps.cons (fun a w' hc hp hk => ?_) ?_
    · have e58 : a.tmps.getD 58 undef = (.bool true : Value) := (rk_at hk (e := ⟨36, .data⟩) (by simp) rfl rfl rfl)
      have f58 := gd e58
      exact ro_pure (v := .bool false) (wanted_yes rfl rfl rfl (show _ = _ from rk_at hk (e := ⟨30, .guard⟩) (by simp) rfl rfl rfl)) (by simp [execOp, Act.eval, e58, f58, go_sem]) rfl (Chg.refl _ _)
    refine RSteps.cons (fun a w' hc hp hk => ?_) ?_
    · have e52 : a.tmps.getD 52 undef = (.bool false : Value) := (rk_at hk (e := ⟨30, .data⟩) (by simp) rfl rfl rfl)
      have f52 := gd e52
      have e59 : a.tmps.getD 59 undef = (.bool false : Value) := (rk_at hk (e := ⟨37, .data⟩) (by simp) rfl rfl rfl)
      have f59 := gd e59
      exact ro_pure (v := .bool false) (wanted_none rfl) (by simp [execOp, Act.eval, e52, f52, e59, f59, go_sem]) rfl (Chg.refl _ _)
    exact RSteps.nil
  · intro vs wz hc hv
    have q : vs 38 = .bool false := hv 38 (by decide) rfl
    have HC := Lib.hid (chg_none hc)
    clear hc hv
    simp only [putL, Act.put, Nat.zero_add, Nat.reduceAdd, q, List.setIfInBounds_toArray, List.set_cons_succ, List.set_cons_zero]
    clear q
    have K0 := Lib.hid (K0.out.bel HC.out)
    have K7 := Lib.hid (K7.out.bel HC.out)
    have R7 := Lib.hid (R7.out.bel HC.out)
    have HB := Lib.hid (HB.out.trans (HC.out.mono HB.out.size))
    clear HC
    go_upto_region 8 with (fail)
    simp only [List.append_eq, List.cons_append, List.nil_append]
    refine wp_region_multi (by kernel_rfl) (by kernel_rfl) (by kernel_rfl) (fun i => none) (fun i k h => ?_) (noBlk) [Sr.val (.agg (cv cA)), Sr.val (.agg (cv cE)), Sr.val (.agg (cv cR)), Sr.val (.agg (cv cE)), Sr.cells [cA, cE, cR, cE], Sr.rline [cA, cE, cR, cE] false, Sr.val (.int .i64 3), Sr.val (.bool false), Sr.val (.bool false), Sr.val (.agg (cv cA)), Sr.val (.agg (cv cE)), Sr.val (.agg (cv cE)), Sr.cells [cA, cE, cE], Sr.rline [cA, cE, cE] false, Sr.val (.agg (cv cA)), Sr.cells [cA], Sr.rline [cA] false, Sr.val (.bool true), Sr.val (.bool false), Sr.val (.bool false), Sr.val (.bool false), Sr.val (.agg (cv cE)), Sr.val (.agg (cv cE)), Sr.cells [cE, cE], Sr.rline [cE, cE] false, Sr.rline [] false, Sr.val (.bool true), Sr.val (.bool false), Sr.val (.bool false), Sr.val (.bool false), Sr.val (.agg (cv cA)), Sr.val (.agg (cv cW)), Sr.val (.agg (cv cell0)), Sr.cells [cA, cW, cell0], Sr.rline [cA, cW, cell0] false, Sr.val (.agg (cv cA)), Sr.val (.agg (cv cE)), Sr.cells [cA, cE], Sr.rline [cA, cE] false, Sr.val (.bool true), Sr.val (.bool false), Sr.val (.bool false), Sr.val (.bool false), Sr.val (.agg (cv cA)), Sr.val (.agg (cv cW)), Sr.val (.agg (cv cell0)), Sr.cells [cA, cW, cell0], Sr.rline [cA, cW, cell0] false, Sr.val (.agg (cv cA)), Sr.val (.agg (cv cW)), Sr.val (.agg (cv cell0)), Sr.val (.agg (cv cE)), Sr.val (.agg (cv cE)), Sr.cells [cA, cW, cell0, cE, cE], Sr.rline [cA, cW, cell0, cE, cE] false, Sr.val (.bool true), Sr.val (.bool false), Sr.val (.bool false), Sr.val (.bool false), Sr.val (.agg (cv cA)), Sr.val (.agg (cv cW)), Sr.val (.agg (cv cell0)), Sr.cells [cA, cW, cell0], Sr.rline [cA, cW, cell0] false, Sr.val (.agg #[.slice none 0 0, .bool false]), Sr.val (.bool true), Sr.val (.bool false), Sr.val (.bool false), Sr.val (.bool false), Sr.val (.agg (cv cE)), Sr.val (.agg (cv cA)), Sr.val (.agg (cv cE)), Sr.val (.agg (cv cE)), Sr.cells [cE, cA, cE, cE], Sr.rline [cE, cA, cE, cE] false, Sr.val (.string ⟨#[32, 97]⟩), Sr.val (.bool false), Sr.val (.bool false)] [] [] (fun p hp => by cases hp) (fun p hp => by cases hp) (fun p hp => by cases hp) (fun p hp => by cases hp) ?_ ?_ ?_
    · cases h
    · intro q hq
      cases hq
    · refine RSteps.cons (fun a w' hc hp hk => ?_) ?_
      · have e1 : a.tmps.getD 1 undef = (.pointer (some ⟨b1, 0, none⟩) : Value) := (rk_same hk 1 (by kernel_rfl)).trans rfl
        have f1 := gd e1
        have hx := (K0.out.bel (chg_none hc)).h1.cellAt
        exact ro_pure (v := .agg (cv cA)) (wanted_none rfl) (by simp [execOp, Act.eval, e1, f1, go_sem, hx]) rfl (Chg.refl _ _)
      refine RSteps.cons (fun a w' hc hp hk => ?_) ?_
      · have e4 : a.tmps.getD 4 undef = (.pointer (some ⟨b4, 0, none⟩) : Value) := (rk_same hk 4 (by kernel_rfl)).trans rfl
        have f4 := gd e4
        have hx := (K0.out.bel (chg_none hc)).h4.cellAt
        exact ro_pure (v := .agg (cv cE)) (wanted_none rfl) (by simp [execOp, Act.eval, e4, f4, go_sem, hx]) rfl (Chg.refl _ _)
      refine RSteps.cons (fun a w' hc hp hk => ?_) ?_
      · have e5 : a.tmps.getD 5 undef = (.pointer (some ⟨b5, 0, none⟩) : Value) := (rk_same hk 5 (by kernel_rfl)).trans rfl
        have f5 := gd e5
        have hx := (K0.out.bel (chg_none hc)).h5.cellAt
        exact ro_pure (v := .agg (cv cR)) (wanted_none rfl) (by simp [execOp, Act.eval, e5, f5, go_sem, hx]) rfl (Chg.refl _ _)
      refine RSteps.cons (fun a w' hc hp hk => ?_) ?_
      · have e4 : a.tmps.getD 4 undef = (.pointer (some ⟨b4, 0, none⟩) : Value) := (rk_same hk 4 (by kernel_rfl)).trans rfl
        have f4 := gd e4
        have hx := (K0.out.bel (chg_none hc)).h4.cellAt
        exact ro_pure (v := .agg (cv cE)) (wanted_none rfl) (by simp [execOp, Act.eval, e4, f4, go_sem, hx]) rfl (Chg.refl _ _)
      refine RSteps.cons (fun a w' hc hp hk => ?_) ?_
      · have e61 : a.tmps.getD 61 undef = (.agg (cv cA) : Value) := (rk_at hk (e := ⟨0, .data⟩) (by simp) rfl rfl rfl)
        have f61 := gd e61
        have e62 : a.tmps.getD 62 undef = (.agg (cv cE) : Value) := (rk_at hk (e := ⟨1, .data⟩) (by simp) rfl rfl rfl)
        have f62 := gd e62
        have e63 : a.tmps.getD 63 undef = (.agg (cv cR) : Value) := (rk_at hk (e := ⟨2, .data⟩) (by simp) rfl rfl rfl)
        have f63 := gd e63
        have e64 : a.tmps.getD 64 undef = (.agg (cv cE) : Value) := (rk_at hk (e := ⟨3, .data⟩) (by simp) rfl rfl rfl)
        have f64 := gd e64
        exact rstep_value (wanted_none rfl) (exec_bs rfl (by simp only [List.map_toArray, List.map_cons, List.map_nil, Act.eval, e61, e62, e63, e64]) (run_bs4 cA cE cR cE w')) ⟨_, _, rfl, RdC.lit w' [cA, cE, cR, cE]⟩ (Chg.of_below (belA _ _) _)
      refine RSteps.cons (fun a w' hc hp hk => ?_) ?_
      · obtain ⟨A65, c65, e65, r65⟩ : ∃ A c, (a.tmps.getD 65 undef) = .slice A ([cA, cE, cR, cE] : List Cell).length c ∧ RdC w' A c [cA, cE, cR, cE] := (rk_at hk (e := ⟨4, .data⟩) (by simp) rfl rfl rfl)
        have HW := HB.out.trans ((chg_none hc).mono HB.out.size)
        exact ro_call (wanted_none rfl) rfl (by simp only [List.map_toArray, List.map_cons, List.map_nil, Act.eval, e65] <;> rfl) (fun _ _ => by kernel_rfl) ((l06hard_any A65 ([cA, cE, cR, cE] : List Cell).length c65 w').mono fun e w2 ⟨h1, h2⟩ => ⟨_, h1, ⟨A65, c65, rfl, (r65 : RdC w' A65 c65 [cA, cE, cR, cE]).bel h2⟩, Chg.of_below h2 _⟩)
      refine RSteps.cons (fun a w' hc hp hk => ?_) ?_
      · obtain ⟨A66, c66, e66, r66⟩ : ∃ A c, (a.tmps.getD 66 undef) = .agg #[.slice A ([cA, cE, cR, cE] : List Cell).length c, .bool false] ∧ RdC w' A c [cA, cE, cR, cE] := (rk_at hk (e := ⟨5, .data⟩) (by simp) rfl rfl rfl)
        have HW := HB.out.trans ((chg_none hc).mono HB.out.size)
        exact ro_call (wanted_none rfl) rfl (by simp only [List.map_toArray, List.map_cons, List.map_nil, Act.eval, e66] <;> rfl) (fun _ _ => by kernel_rfl) ((lineUsed_any A66 c66 [cA, cE, cR, cE] false w' r66 (by decide)).mono fun e w2 ⟨h1, h2⟩ => ⟨_, h1, congrArg (Value.int .i64) (by decide +kernel), Chg.of_below h2 _⟩)
      refine RSteps.cons (fun a w' hc hp hk => ?_) ?_
      · have e67 : a.tmps.getD 67 undef = (.int .i64 3 : Value) := (rk_at hk (e := ⟨6, .data⟩) (by simp) rfl rfl rfl)
        have f67 := gd e67
        exact ro_pure (v := .bool false) (wanted_none rfl) (by simp [execOp, Act.eval, e67, f67, go_sem]) rfl (Chg.refl _ _)
      refine RSteps.cons (fun a w' hc hp hk => ?_) ?_
      · have e68 : a.tmps.getD 68 undef = (.bool false : Value) := (rk_at hk (e := ⟨7, .data⟩) (by simp) rfl rfl rfl)
        have f68 := gd e68
        exact ro_pure (v := .bool false) (wanted_none rfl) (by simp [execOp, Act.eval, e68, f68, go_sem]) rfl (Chg.refl _ _)
      refine RSteps.cons (fun a w' hc hp hk => ?_) ?_
      · have e1 : a.tmps.getD 1 undef = (.pointer (some ⟨b1, 0, none⟩) : Value) := (rk_same hk 1 (by kernel_rfl)).trans rfl
        have f1 := gd e1
        have hx := (K0.out.bel (chg_none hc)).h1.cellAt
        exact ro_pure (v := .agg (cv cA)) (wanted_yes rfl rfl rfl (show _ = _ from rk_at hk (e := ⟨8, .guard⟩) (by simp) rfl rfl rfl)) (by simp [execOp, Act.eval, e1, f1, go_sem, hx]) rfl (Chg.refl _ _)
      refine RSteps.cons (fun a w' hc hp hk => ?_) ?_
      · have e4 : a.tmps.getD 4 undef = (.pointer (some ⟨b4, 0, none⟩) : Value) := (rk_same hk 4 (by kernel_rfl)).trans rfl
        have f4 := gd e4
        have hx := (K0.out.bel (chg_none hc)).h4.cellAt
        exact ro_pure (v := .agg (cv cE)) (wanted_yes rfl rfl rfl (show _ = _ from rk_at hk (e := ⟨8, .guard⟩) (by simp) rfl rfl rfl)) (by simp [execOp, Act.eval, e4, f4, go_sem, hx]) rfl (Chg.refl _ _)
      refine RSteps.cons (fun a w' hc hp hk => ?_) ?_
      · have e4 : a.tmps.getD 4 undef = (.pointer (some ⟨b4, 0, none⟩) : Value) := (rk_same hk 4 (by kernel_rfl)).trans rfl
        have f4 := gd e4
        have hx := (K0.out.bel (chg_none hc)).h4.cellAt
        exact ro_pure (v := .agg (cv cE)) (wanted_yes rfl rfl rfl (show _ = _ from rk_at hk (e := ⟨8, .guard⟩) (by simp) rfl rfl rfl)) (by simp [execOp, Act.eval, e4, f4, go_sem, hx]) rfl (Chg.refl _ _)
      refine RSteps.cons (fun a w' hc hp hk => ?_) ?_
      · have e70 : a.tmps.getD 70 undef = (.agg (cv cA) : Value) := (rk_at hk (e := ⟨9, .data⟩) (by simp) rfl rfl rfl)
        have f70 := gd e70
        have e71 : a.tmps.getD 71 undef = (.agg (cv cE) : Value) := (rk_at hk (e := ⟨10, .data⟩) (by simp) rfl rfl rfl)
        have f71 := gd e71
        have e72 : a.tmps.getD 72 undef = (.agg (cv cE) : Value) := (rk_at hk (e := ⟨11, .data⟩) (by simp) rfl rfl rfl)
        have f72 := gd e72
        exact rstep_value (wanted_yes rfl rfl rfl (show _ = _ from rk_at hk (e := ⟨8, .guard⟩) (by simp) rfl rfl rfl)) (exec_bs rfl (by simp only [List.map_toArray, List.map_cons, List.map_nil, Act.eval, e70, e71, e72]) (run_bs3 cA cE cE w')) ⟨_, _, rfl, RdC.lit w' [cA, cE, cE]⟩ (Chg.of_below (belA _ _) _)
      refine RSteps.cons (fun a w' hc hp hk => ?_) ?_
      · obtain ⟨A73, c73, e73, r73⟩ : ∃ A c, (a.tmps.getD 73 undef) = .slice A ([cA, cE, cE] : List Cell).length c ∧ RdC w' A c [cA, cE, cE] := (rk_at hk (e := ⟨12, .data⟩) (by simp) rfl rfl rfl)
        have HW := HB.out.trans ((chg_none hc).mono HB.out.size)
        exact ro_call (wanted_yes rfl rfl rfl (show _ = _ from rk_at hk (e := ⟨8, .guard⟩) (by simp) rfl rfl rfl)) rfl (by simp only [List.map_toArray, List.map_cons, List.map_nil, Act.eval, e73] <;> rfl) (fun _ _ => by kernel_rfl) ((l06hard_any A73 ([cA, cE, cE] : List Cell).length c73 w').mono fun e w2 ⟨h1, h2⟩ => ⟨_, h1, ⟨A73, c73, rfl, (r73 : RdC w' A73 c73 [cA, cE, cE]).bel h2⟩, Chg.of_below h2 _⟩)
      refine RSteps.cons (fun a w' hc hp hk => ?_) ?_
      · have e1 : a.tmps.getD 1 undef = (.pointer (some ⟨b1, 0, none⟩) : Value) := (rk_same hk 1 (by kernel_rfl)).trans rfl
        have f1 := gd e1
        have hx := (K0.out.bel (chg_none hc)).h1.cellAt
        exact ro_pure (v := .agg (cv cA)) (wanted_yes rfl rfl rfl (show _ = _ from rk_at hk (e := ⟨8, .guard⟩) (by simp) rfl rfl rfl)) (by simp [execOp, Act.eval, e1, f1, go_sem, hx]) rfl (Chg.refl _ _)
      refine RSteps.cons (fun a w' hc hp hk => ?_) ?_
      · have e75 : a.tmps.getD 75 undef = (.agg (cv cA) : Value) := (rk_at hk (e := ⟨14, .data⟩) (by simp) rfl rfl rfl)
        have f75 := gd e75
        exact rstep_value (wanted_yes rfl rfl rfl (show _ = _ from rk_at hk (e := ⟨8, .guard⟩) (by simp) rfl rfl rfl)) (exec_bs rfl (by simp only [List.map_toArray, List.map_cons, List.map_nil, Act.eval, e75]) (run_bs1 cA w')) ⟨_, _, rfl, RdC.lit w' [cA]⟩ (Chg.of_below (belA _ _) _)
      refine RSteps.cons (fun a w' hc hp hk => ?_) ?_
      · obtain ⟨A76, c76, e76, r76⟩ : ∃ A c, (a.tmps.getD 76 undef) = .slice A ([cA] : List Cell).length c ∧ RdC w' A c [cA] := (rk_at hk (e := ⟨15, .data⟩) (by simp) rfl rfl rfl)
        have HW := HB.out.trans ((chg_none hc).mono HB.out.size)
        exact ro_call (wanted_yes rfl rfl rfl (show _ = _ from rk_at hk (e := ⟨8, .guard⟩) (by simp) rfl rfl rfl)) rfl (by simp only [List.map_toArray, List.map_cons, List.map_nil, Act.eval, e76] <;> rfl) (fun _ _ => by kernel_rfl) ((l06hard_any A76 ([cA] : List Cell).length c76 w').mono fun e w2 ⟨h1, h2⟩ => ⟨_, h1, ⟨A76, c76, rfl, (r76 : RdC w' A76 c76 [cA]).bel h2⟩, Chg.of_below h2 _⟩)
      refine RSteps.cons (fun a w' hc hp hk => ?_) ?_
      · obtain ⟨A74, c74, e74, r74⟩ : ∃ A c, (a.tmps.getD 74 undef) = .agg #[.slice A ([cA, cE, cE] : List Cell).length c, .bool false] ∧ RdC w' A c [cA, cE, cE] := (rk_at hk (e := ⟨13, .data⟩) (by simp) rfl rfl rfl)
        obtain ⟨A77, c77, e77, r77⟩ : ∃ A c, (a.tmps.getD 77 undef) = .agg #[.slice A ([cA] : List Cell).length c, .bool false] ∧ RdC w' A c [cA] := (rk_at hk (e := ⟨16, .data⟩) (by simp) rfl rfl rfl)
        have HW := HB.out.trans ((chg_none hc).mono HB.out.size)
        exact ro_call (wanted_yes rfl rfl rfl (show _ = _ from rk_at hk (e := ⟨8, .guard⟩) (by simp) rfl rfl rfl)) rfl (by simp only [List.map_toArray, List.map_cons, List.map_nil, Act.eval, e74, e77] <;> rfl) (fun _ _ => by kernel_rfl) (yes_of (l06trims_any A74 c74 [cA, cE, cE] false (trimOf [cA, cE, cE] false).1 (trimOf [cA, cE, cE] false).2.1 (trimOf [cA, cE, cE] false).2.2 A77 c77 [cA] false 0 w' (fun w3 hb3 => lineTrim_any A74 c74 [cA, cE, cE] false w3 ((HT.out.bel HW).bel hb3) (r74.bel hb3) (by decide)) r77 (by decide +kernel) (by decide)) (by decide +kernel))
      refine RSteps.cons (fun a w' hc hp hk => ?_) ?_
      · have e78 : a.tmps.getD 78 undef = (.bool true : Value) := (rk_at hk (e := ⟨17, .data⟩) (by simp) rfl rfl rfl)
        have f78 := gd e78
        exact ro_pure (v := .bool false) (wanted_yes rfl rfl rfl (show _ = _ from rk_at hk (e := ⟨8, .guard⟩) (by simp) rfl rfl rfl)) (by simp [execOp, Act.eval, e78, f78, go_sem]) rfl (Chg.refl _ _)
      refine RSteps.cons (fun a w' hc hp hk => ?_) ?_
      · have e69 : a.tmps.getD 69 undef = (.bool false : Value) := (rk_at hk (e := ⟨8, .data⟩) (by simp) rfl rfl rfl)
        have f69 := gd e69
        have e79 : a.tmps.getD 79 undef = (.bool false : Value) := (rk_at hk (e := ⟨18, .data⟩) (by simp) rfl rfl rfl)
        have f79 := gd e79
        exact ro_pure (v := .bool false) (wanted_none rfl) (by simp [execOp, Act.eval, e69, f69, e79, f79, go_sem]) rfl (Chg.refl _ _)
      refine RSteps.cons (fun a w' hc hp hk => ?_) ?_
      · have e80 : a.tmps.getD 80 undef = (.bool false : Value) := (rk_at hk (e := ⟨19, .data⟩) (by simp) rfl rfl rfl)
        have f80 := gd e80
        exact ro_pure (v := .bool false) (wanted_none rfl) (by simp [execOp, Act.eval, e80, f80, go_sem]) rfl (Chg.refl _ _)
      refine RSteps.cons (fun a w' hc hp hk => ?_) ?_
      · have e4 : a.tmps.getD 4 undef = (.pointer (some ⟨b4, 0, none⟩) : Value) := (rk_same hk 4 (by kernel_rfl)).trans rfl
        have f4 := gd e4
        have hx := (K0.out.bel (chg_none hc)).h4.cellAt
        exact ro_pure (v := .agg (cv cE)) (wanted_yes rfl rfl rfl (show _ = _ from rk_at hk (e := ⟨20, .guard⟩) (by simp) rfl rfl rfl)) (by simp [execOp, Act.eval, e4, f4, go_sem, hx]) rfl (Chg.refl _ _)
      refine RSteps.cons (fun a w' hc hp hk => ?_) ?_
      · have e4 : a.tmps.getD 4 undef = (.pointer (some ⟨b4, 0, none⟩) : Value) := (rk_same hk 4 (by kernel_rfl)).trans rfl
        have f4 := gd e4
        have hx := (K0.out.bel (chg_none hc)).h4.cellAt
        exact ro_pure (v := .agg (cv cE)) (wanted_yes rfl rfl rfl (show _ = _ from rk_at hk (e := ⟨20, .guard⟩) (by simp) rfl rfl rfl)) (by simp [execOp, Act.eval, e4, f4, go_sem, hx]) rfl (Chg.refl _ _)
      refine RSteps.cons (fun a w' hc hp hk => ?_) ?_
      · have e82 : a.tmps.getD 82 undef = (.agg (cv cE) : Value) := (rk_at hk (e := ⟨21, .data⟩) (by simp) rfl rfl rfl)
        have f82 := gd e82
        have e83 : a.tmps.getD 83 undef = (.agg (cv cE) : Value) := (rk_at hk (e := ⟨22, .data⟩) (by simp) rfl rfl rfl)
        have f83 := gd e83
        exact rstep_value (wanted_yes rfl rfl rfl (show _ = _ from rk_at hk (e := ⟨20, .guard⟩) (by simp) rfl rfl rfl)) (exec_bs rfl (by simp only [List.map_toArray, List.map_cons, List.map_nil, Act.eval, e82, e83]) (run_bs2 cE cE w')) ⟨_, _, rfl, RdC.lit w' [cE, cE]⟩ (Chg.of_below (belA _ _) _)
      refine RSteps.cons (fun a w' hc hp hk => ?_) ?_
      · obtain ⟨A84, c84, e84, r84⟩ : ∃ A c, (a.tmps.getD 84 undef) = .slice A ([cE, cE] : List Cell).length c ∧ RdC w' A c [cE, cE] := (rk_at hk (e := ⟨23, .data⟩) (by simp) rfl rfl rfl)
        have HW := HB.out.trans ((chg_none hc).mono HB.out.size)
        exact ro_call (wanted_yes rfl rfl rfl (show _ = _ from rk_at hk (e := ⟨20, .guard⟩) (by simp) rfl rfl rfl)) rfl (by simp only [List.map_toArray, List.map_cons, List.map_nil, Act.eval, e84] <;> rfl) (fun _ _ => by kernel_rfl) ((l06hard_any A84 ([cE, cE] : List Cell).length c84 w').mono fun e w2 ⟨h1, h2⟩ => ⟨_, h1, ⟨A84, c84, rfl, (r84 : RdC w' A84 c84 [cE, cE]).bel h2⟩, Chg.of_below h2 _⟩)
      refine RSteps.cons (fun a w' hc hp hk => ?_) ?_
      · have HW := HB.out.trans ((chg_none hc).mono HB.out.size)
        exact ro_call (wanted_yes rfl rfl rfl (show _ = _ from rk_at hk (e := ⟨20, .guard⟩) (by simp) rfl rfl rfl)) rfl (by simp only [List.map_toArray, List.map_cons, List.map_nil, Act.eval] <;> rfl) (fun _ _ => by kernel_rfl) ((l06hard_any none ([] : List Cell).length 0 w').mono fun e w2 ⟨h1, h2⟩ => ⟨_, h1, ⟨none, 0, rfl, ((RdC.nil w') : RdC w' none 0 []).bel h2⟩, Chg.of_below h2 _⟩)
      refine RSteps.cons (fun a w' hc hp hk => ?_) ?_
      · obtain ⟨A85, c85, e85, r85⟩ : ∃ A c, (a.tmps.getD 85 undef) = .agg #[.slice A ([cE, cE] : List Cell).length c, .bool false] ∧ RdC w' A c [cE, cE] := (rk_at hk (e := ⟨24, .data⟩) (by simp) rfl rfl rfl)
        obtain ⟨A86, c86, e86, r86⟩ : ∃ A c, (a.tmps.getD 86 undef) = .agg #[.slice A ([] : List Cell).length c, .bool false] ∧ RdC w' A c [] := (rk_at hk (e := ⟨25, .data⟩) (by simp) rfl rfl rfl)
        have HW := HB.out.trans ((chg_none hc).mono HB.out.size)
        exact ro_call (wanted_yes rfl rfl rfl (show _ = _ from rk_at hk (e := ⟨20, .guard⟩) (by simp) rfl rfl rfl)) rfl (by simp only [List.map_toArray, List.map_cons, List.map_nil, Act.eval, e85, e86] <;> rfl) (fun _ _ => by kernel_rfl) (yes_of (l06trims_any A85 c85 [cE, cE] false (trimOf [cE, cE] false).1 (trimOf [cE, cE] false).2.1 (trimOf [cE, cE] false).2.2 A86 c86 [] false 0 w' (fun w3 hb3 => lineTrim_any A85 c85 [cE, cE] false w3 ((HT.out.bel HW).bel hb3) (r85.bel hb3) (by decide)) r86 (by decide +kernel) (by decide)) (by decide +kernel))
      refine RSteps.cons (fun a w' hc hp hk => ?_) ?_
      · have e87 : a.tmps.getD 87 undef = (.bool true : Value) := (rk_at hk (e := ⟨26, .data⟩) (by simp) rfl rfl rfl)
        have f87 := gd e87
        exact ro_pure (v := .bool false) (wanted_yes rfl rfl rfl (show _ = _ from rk_at hk (e := ⟨20, .guard⟩) (by simp) rfl rfl rfl)) (by simp [execOp, Act.eval, e87, f87, go_sem]) rfl (Chg.refl _ _)
      refine RSteps.cons (fun a w' hc hp hk => ?_) ?_
      · have e81 : a.tmps.getD 81 undef = (.bool false : Value) := (rk_at hk (e := ⟨20, .data⟩) (by simp) rfl rfl rfl)
        have f81 := gd e81
        have e88 : a.tmps.getD 88 undef = (.bool false : Value) := (rk_at hk (e := ⟨27, .data⟩) (by simp) rfl rfl rfl)
        have f88 := gd e88
        exact ro_pure (v := .bool false) (wanted_none rfl) (by simp [execOp, Act.eval, e81, f81, e88, f88, go_sem]) rfl (Chg.refl _ _)
      refine RSteps.cons (fun a w' hc hp hk => ?_) ?_
      · have e89 : a.tmps.getD 89 undef = (.bool false : Value) := (rk_at hk (e := ⟨28, .data⟩) (by simp) rfl rfl rfl)
        have f89 := gd e89
        exact ro_pure (v := .bool false) (wanted_none rfl) (by simp [execOp, Act.eval, e89, f89, go_sem]) rfl (Chg.refl _ _)
      refine RSteps.cons (fun a w' hc hp hk => ?_) ?_
      · have e1 : a.tmps.getD 1 undef = (.pointer (some ⟨b1, 0, none⟩) : Value) := (rk_same hk 1 (by kernel_rfl)).trans rfl
        have f1 := gd e1
        have hx := (K0.out.bel (chg_none hc)).h1.cellAt
        exact ro_pure (v := .agg (cv cA)) (wanted_yes rfl rfl rfl (show _ = _ from rk_at hk (e := ⟨29, .guard⟩) (by simp) rfl rfl rfl)) (by simp [execOp, Act.eval, e1, f1, go_sem, hx]) rfl (Chg.refl _ _)
      refine RSteps.cons (fun a w' hc hp hk => ?_) ?_
      · have e2 : a.tmps.getD 2 undef = (.pointer (some ⟨b2, 0, none⟩) : Value) := (rk_same hk 2 (by kernel_rfl)).trans rfl
        have f2 := gd e2
        have hx := (K0.out.bel (chg_none hc)).h2.cellAt
        exact ro_pure (v := .agg (cv cW)) (wanted_yes rfl rfl rfl (show _ = _ from rk_at hk (e := ⟨29, .guard⟩) (by simp) rfl rfl rfl)) (by simp [execOp, Act.eval, e2, f2, go_sem, hx]) rfl (Chg.refl _ _)
      refine RSteps.cons (fun a w' hc hp hk => ?_) ?_
      · have e3 : a.tmps.getD 3 undef = (.pointer (some ⟨b3, 0, none⟩) : Value) := (rk_same hk 3 (by kernel_rfl)).trans rfl
        have f3 := gd e3
        have hx := (K0.out.bel (chg_none hc)).h3.cellAt
        exact ro_pure (v := .agg (cv cell0)) (wanted_yes rfl rfl rfl (show _ = _ from rk_at hk (e := ⟨29, .guard⟩) (by simp) rfl rfl rfl)) (by simp [execOp, Act.eval, e3, f3, go_sem, hx]) rfl (Chg.refl _ _)
      refine RSteps.cons (fun a w' hc hp hk => ?_) ?_
      · have e91 : a.tmps.getD 91 undef = (.agg (cv cA) : Value) := (rk_at hk (e := ⟨30, .data⟩) (by simp) rfl rfl rfl)
        have f91 := gd e91
        have e92 : a.tmps.getD 92 undef = (.agg (cv cW) : Value) := (rk_at hk (e := ⟨31, .data⟩) (by simp) rfl rfl rfl)
        have f92 := gd e92
        have e93 : a.tmps.getD 93 undef = (.agg (cv cell0) : Value) := (rk_at hk (e := ⟨32, .data⟩) (by simp) rfl rfl rfl)
        have f93 := gd e93
        exact rstep_value (wanted_yes rfl rfl rfl (show _ = _ from rk_at hk (e := ⟨29, .guard⟩) (by simp) rfl rfl rfl)) (exec_bs rfl (by simp only [List.map_toArray, List.map_cons, List.map_nil, Act.eval, e91, e92, e93]) (run_bs3 cA cW cell0 w')) ⟨_, _, rfl, RdC.lit w' [cA, cW, cell0]⟩ (Chg.of_below (belA _ _) _)
      refine RSteps.cons (fun a w' hc hp hk => ?_) ?_
      · obtain ⟨A94, c94, e94, r94⟩ : ∃ A c, (a.tmps.getD 94 undef) = .slice A ([cA, cW, cell0] : List Cell).length c ∧ RdC w' A c [cA, cW, cell0] := (rk_at hk (e := ⟨33, .data⟩) (by simp) rfl rfl rfl)
        have HW := HB.out.trans ((chg_none hc).mono HB.out.size)
        exact ro_call (wanted_yes rfl rfl rfl (show _ = _ from rk_at hk (e := ⟨29, .guard⟩) (by simp) rfl rfl rfl)) rfl (by simp only [List.map_toArray, List.map_cons, List.map_nil, Act.eval, e94] <;> rfl) (fun _ _ => by kernel_rfl) ((l06hard_any A94 ([cA, cW, cell0] : List Cell).length c94 w').mono fun e w2 ⟨h1, h2⟩ => ⟨_, h1, ⟨A94, c94, rfl, (r94 : RdC w' A94 c94 [cA, cW, cell0]).bel h2⟩, Chg.of_below h2 _⟩)
      refine RSteps.cons (fun a w' hc hp hk => ?_) ?_
      · have e1 : a.tmps.getD 1 undef = (.pointer (some ⟨b1, 0, none⟩) : Value) := (rk_same hk 1 (by kernel_rfl)).trans rfl
        have f1 := gd e1
        have hx := (K0.out.bel (chg_none hc)).h1.cellAt
        exact ro_pure (v := .agg (cv cA)) (wanted_yes rfl rfl rfl (show _ = _ from rk_at hk (e := ⟨29, .guard⟩) (by simp) rfl rfl rfl)) (by simp [execOp, Act.eval, e1, f1, go_sem, hx]) rfl (Chg.refl _ _)
      refine RSteps.cons (fun a w' hc hp hk => ?_) ?_
      · have e4 : a.tmps.getD 4 undef = (.pointer (some ⟨b4, 0, none⟩) : Value) := (rk_same hk 4 (by kernel_rfl)).trans rfl
        have f4 := gd e4
        have hx := (K0.out.bel (chg_none hc)).h4.cellAt
        exact ro_pure (v := .agg (cv cE)) (wanted_yes rfl rfl rfl (show _ = _ from rk_at hk (e := ⟨29, .guard⟩) (by simp) rfl rfl rfl)) (by simp [execOp, Act.eval, e4, f4, go_sem, hx]) rfl (Chg.refl _ _)
      refine RSteps.cons (fun a w' hc hp hk => ?_) ?_
      · have e96 : a.tmps.getD 96 undef = (.agg (cv cA) : Value) := (rk_at hk (e := ⟨35, .data⟩) (by simp) rfl rfl rfl)
        have f96 := gd e96
        have e97 : a.tmps.getD 97 undef = (.agg (cv cE) : Value) := (rk_at hk (e := ⟨36, .data⟩) (by simp) rfl rfl rfl)
        have f97 := gd e97
        exact rstep_value (wanted_yes rfl rfl rfl (show _ = _ from rk_at hk (e := ⟨29, .guard⟩) (by simp) rfl rfl rfl)) (exec_bs rfl (by simp only [List.map_toArray, List.map_cons, List.map_nil, Act.eval, e96, e97]) (run_bs2 cA cE w')) ⟨_, _, rfl, RdC.lit w' [cA, cE]⟩ (Chg.of_below (belA _ _) _)
      refine RSteps.cons (fun a w' hc hp hk => ?_) ?_
      · obtain ⟨A98, c98, e98, r98⟩ : ∃ A c, (a.tmps.getD 98 undef) = .slice A ([cA, cE] : List Cell).length c ∧ RdC w' A c [cA, cE] := (rk_at hk (e := ⟨37, .data⟩) (by simp) rfl rfl rfl)
        have HW := HB.out.trans ((chg_none hc).mono HB.out.size)
        exact ro_call (wanted_yes rfl rfl rfl (show _ = _ from rk_at hk (e := ⟨29, .guard⟩) (by simp) rfl rfl rfl)) rfl (by simp only [List.map_toArray, List.map_cons, List.map_nil, Act.eval, e98] <;> rfl) (fun _ _ => by kernel_rfl) ((l06hard_any A98 ([cA, cE] : List Cell).length c98 w').mono fun e w2 ⟨h1, h2⟩ => ⟨_, h1, ⟨A98, c98, rfl, (r98 : RdC w' A98 c98 [cA, cE]).bel h2⟩, Chg.of_below h2 _⟩)
      refine RSteps.cons (fun a w' hc hp hk => ?_) ?_
      · obtain ⟨A95, c95, e95, r95⟩ : ∃ A c, (a.tmps.getD 95 undef) = .agg #[.slice A ([cA, cW, cell0] : List Cell).length c, .bool false] ∧ RdC w' A c [cA, cW, cell0] := (rk_at hk (e := ⟨34, .data⟩) (by simp) rfl rfl rfl)
        obtain ⟨A99, c99, e99, r99⟩ : ∃ A c, (a.tmps.getD 99 undef) = .agg #[.slice A ([cA, cE] : List Cell).length c, .bool false] ∧ RdC w' A c [cA, cE] := (rk_at hk (e := ⟨38, .data⟩) (by simp) rfl rfl rfl)
        have HW := HB.out.trans ((chg_none hc).mono HB.out.size)
        exact ro_call (wanted_yes rfl rfl rfl (show _ = _ from rk_at hk (e := ⟨29, .guard⟩) (by simp) rfl rfl rfl)) rfl (by simp only [List.map_toArray, List.map_cons, List.map_nil, Act.eval, e95, e99] <;> rfl) (fun _ _ => by kernel_rfl) (yes_of (l06fits_any A95 c95 [cA, cW, cell0] false (2) (fitTo 2 [cA, cW, cell0]) false 0 A99 c99 [cA, cE] false 0 w' (fun w3 hb3 => lineFit_yes A95 c95 [cA, cW, cell0] false 2 (by decide) w3 ((HT.out.bel HW).bel hb3) (r95.bel hb3) (by decide) (by decide +kernel)) r99 (by decide +kernel) (by decide)) (by decide +kernel))
      refine RSteps.cons (fun a w' hc hp hk => ?_) ?_
      · have e100 : a.tmps.getD 100 undef = (.bool true : Value) := (rk_at hk (e := ⟨39, .data⟩) (by simp) rfl rfl rfl)
        have f100 := gd e100
        exact ro_pure (v := .bool false) (wanted_yes rfl rfl rfl (show _ = _ from rk_at hk (e := ⟨29, .guard⟩) (by simp) rfl rfl rfl)) (by simp [execOp, Act.eval, e100, f100, go_sem]) rfl (Chg.refl _ _)
      refine RSteps.cons (fun a w' hc hp hk => ?_) ?_
      · have e90 : a.tmps.getD 90 undef = (.bool false : Value) := (rk_at hk (e := ⟨29, .data⟩) (by simp) rfl rfl rfl)
        have f90 := gd e90
        have e101 : a.tmps.getD 101 undef = (.bool false : Value) := (rk_at hk (e := ⟨40, .data⟩) (by simp) rfl rfl rfl)
        have f101 := gd e101
        exact ro_pure (v := .bool false) (wanted_none rfl) (by simp [execOp, Act.eval, e90, f90, e101, f101, go_sem]) rfl (Chg.refl _ _)
      refine RSteps.cons (fun a w' hc hp hk => ?_) ?_
      · have e102 : a.tmps.getD 102 undef = (.bool false : Value) := (rk_at hk (e := ⟨41, .data⟩) (by simp) rfl rfl rfl)
        have f102 := gd e102
        exact ro_pure (v := .bool false) (wanted_none rfl) (by simp [execOp, Act.eval, e102, f102, go_sem]) rfl (Chg.refl _ _)
      refine RSteps.cons (fun a w' hc hp hk => ?_) ?_
      · have e1 : a.tmps.getD 1 undef = (.pointer (some ⟨b1, 0, none⟩) : Value) := (rk_same hk 1 (by kernel_rfl)).trans rfl
        have f1 := gd e1
        have hx := (K0.out.bel (chg_none hc)).h1.cellAt
        exact ro_pure (v := .agg (cv cA)) (wanted_yes rfl rfl rfl (show _ = _ from rk_at hk (e := ⟨42, .guard⟩) (by simp) rfl rfl rfl)) (by simp [execOp, Act.eval, e1, f1, go_sem, hx]) rfl (Chg.refl _ _)
      refine RSteps.cons (fun a w' hc hp hk => ?_) ?_
      · have e2 : a.tmps.getD 2 undef = (.pointer (some ⟨b2, 0, none⟩) : Value) := (rk_same hk 2 (by kernel_rfl)).trans rfl
        have f2 := gd e2
        have hx := (K0.out.bel (chg_none hc)).h2.cellAt
        exact ro_pure (v := .agg (cv cW)) (wanted_yes rfl rfl rfl (show _ = _ from rk_at hk (e := ⟨42, .guard⟩) (by simp) rfl rfl rfl)) (by simp [execOp, Act.eval, e2, f2, go_sem, hx]) rfl (Chg.refl _ _)
      refine RSteps.cons (fun a w' hc hp hk => ?_) ?_
      · have e3 : a.tmps.getD 3 undef = (.pointer (some ⟨b3, 0, none⟩) : Value) := (rk_same hk 3 (by kernel_rfl)).trans rfl
        have f3 := gd e3
        have hx := (K0.out.bel (chg_none hc)).h3.cellAt
        exact ro_pure (v := .agg (cv cell0)) (wanted_yes rfl rfl rfl (show _ = _ from rk_at hk (e := ⟨42, .guard⟩) (by simp) rfl rfl rfl)) (by simp [execOp, Act.eval, e3, f3, go_sem, hx]) rfl (Chg.refl _ _)
      refine RSteps.cons (fun a w' hc hp hk => ?_) ?_
      · have e104 : a.tmps.getD 104 undef = (.agg (cv cA) : Value) := (rk_at hk (e := ⟨43, .data⟩) (by simp) rfl rfl rfl)
        have f104 := gd e104
        have e105 : a.tmps.getD 105 undef = (.agg (cv cW) : Value) := (rk_at hk (e := ⟨44, .data⟩) (by simp) rfl rfl rfl)
        have f105 := gd e105
        have e106 : a.tmps.getD 106 undef = (.agg (cv cell0) : Value) := (rk_at hk (e := ⟨45, .data⟩) (by simp) rfl rfl rfl)
        have f106 := gd e106
        exact rstep_value (wanted_yes rfl rfl rfl (show _ = _ from rk_at hk (e := ⟨42, .guard⟩) (by simp) rfl rfl rfl)) (exec_bs rfl (by simp only [List.map_toArray, List.map_cons, List.map_nil, Act.eval, e104, e105, e106]) (run_bs3 cA cW cell0 w')) ⟨_, _, rfl, RdC.lit w' [cA, cW, cell0]⟩ (Chg.of_below (belA _ _) _)
      refine RSteps.cons (fun a w' hc hp hk => ?_) ?_
      · obtain ⟨A107, c107, e107, r107⟩ : ∃ A c, (a.tmps.getD 107 undef) = .slice A ([cA, cW, cell0] : List Cell).length c ∧ RdC w' A c [cA, cW, cell0] := (rk_at hk (e := ⟨46, .data⟩) (by simp) rfl rfl rfl)
        have HW := HB.out.trans ((chg_none hc).mono HB.out.size)
        exact ro_call (wanted_yes rfl rfl rfl (show _ = _ from rk_at hk (e := ⟨42, .guard⟩) (by simp) rfl rfl rfl)) rfl (by simp only [List.map_toArray, List.map_cons, List.map_nil, Act.eval, e107] <;> rfl) (fun _ _ => by kernel_rfl) ((l06hard_any A107 ([cA, cW, cell0] : List Cell).length c107 w').mono fun e w2 ⟨h1, h2⟩ => ⟨_, h1, ⟨A107, c107, rfl, (r107 : RdC w' A107 c107 [cA, cW, cell0]).bel h2⟩, Chg.of_below h2 _⟩)
      refine RSteps.cons (fun a w' hc hp hk => ?_) ?_
      · have e1 : a.tmps.getD 1 undef = (.pointer (some ⟨b1, 0, none⟩) : Value) := (rk_same hk 1 (by kernel_rfl)).trans rfl
        have f1 := gd e1
        have hx := (K0.out.bel (chg_none hc)).h1.cellAt
        exact ro_pure (v := .agg (cv cA)) (wanted_yes rfl rfl rfl (show _ = _ from rk_at hk (e := ⟨42, .guard⟩) (by simp) rfl rfl rfl)) (by simp [execOp, Act.eval, e1, f1, go_sem, hx]) rfl (Chg.refl _ _)
      refine RSteps.cons (fun a w' hc hp hk => ?_) ?_
      · have e2 : a.tmps.getD 2 undef = (.pointer (some ⟨b2, 0, none⟩) : Value) := (rk_same hk 2 (by kernel_rfl)).trans rfl
        have f2 := gd e2
        have hx := (K0.out.bel (chg_none hc)).h2.cellAt
        exact ro_pure (v := .agg (cv cW)) (wanted_yes rfl rfl rfl (show _ = _ from rk_at hk (e := ⟨42, .guard⟩) (by simp) rfl rfl rfl)) (by simp [execOp, Act.eval, e2, f2, go_sem, hx]) rfl (Chg.refl _ _)
      refine RSteps.cons (fun a w' hc hp hk => ?_) ?_
      · have e3 : a.tmps.getD 3 undef = (.pointer (some ⟨b3, 0, none⟩) : Value) := (rk_same hk 3 (by kernel_rfl)).trans rfl
        have f3 := gd e3
        have hx := (K0.out.bel (chg_none hc)).h3.cellAt
        exact ro_pure (v := .agg (cv cell0)) (wanted_yes rfl rfl rfl (show _ = _ from rk_at hk (e := ⟨42, .guard⟩) (by simp) rfl rfl rfl)) (by simp [execOp, Act.eval, e3, f3, go_sem, hx]) rfl (Chg.refl _ _)
      refine RSteps.cons (fun a w' hc hp hk => ?_) ?_
      · have e4 : a.tmps.getD 4 undef = (.pointer (some ⟨b4, 0, none⟩) : Value) := (rk_same hk 4 (by kernel_rfl)).trans rfl
        have f4 := gd e4
        have hx := (K0.out.bel (chg_none hc)).h4.cellAt
        exact ro_pure (v := .agg (cv cE)) (wanted_yes rfl rfl rfl (show _ = _ from rk_at hk (e := ⟨42, .guard⟩) (by simp) rfl rfl rfl)) (by simp [execOp, Act.eval, e4, f4, go_sem, hx]) rfl (Chg.refl _ _)
      refine RSteps.cons (fun a w' hc hp hk => ?_) ?_
      · have e4 : a.tmps.getD 4 undef = (.pointer (some ⟨b4, 0, none⟩) : Value) := (rk_same hk 4 (by kernel_rfl)).trans rfl
        have f4 := gd e4
        have hx := (K0.out.bel (chg_none hc)).h4.cellAt
        exact ro_pure (v := .agg (cv cE)) (wanted_yes rfl rfl rfl (show _ = _ from rk_at hk (e := ⟨42, .guard⟩) (by simp) rfl rfl rfl)) (by simp [execOp, Act.eval, e4, f4, go_sem, hx]) rfl (Chg.refl _ _)
      refine RSteps.cons (fun a w' hc hp hk => ?_) ?_
      · have e109 : a.tmps.getD 109 undef = (.agg (cv cA) : Value) := (rk_at hk (e := ⟨48, .data⟩) (by simp) rfl rfl rfl)
        have f109 := gd e109
        have e110 : a.tmps.getD 110 undef = (.agg (cv cW) : Value) := (rk_at hk (e := ⟨49, .data⟩) (by simp) rfl rfl rfl)
        have f110 := gd e110
        have e111 : a.tmps.getD 111 undef = (.agg (cv cell0) : Value) := (rk_at hk (e := ⟨50, .data⟩) (by simp) rfl rfl rfl)
        have f111 := gd e111
        have e112 : a.tmps.getD 112 undef = (.agg (cv cE) : Value) := (rk_at hk (e := ⟨51, .data⟩) (by simp) rfl rfl rfl)
        have f112 := gd e112
        have e113 : a.tmps.getD 113 undef = (.agg (cv cE) : Value) := (rk_at hk (e := ⟨52, .data⟩) (by simp) rfl rfl rfl)
        have f113 := gd e113
        exact rstep_value (wanted_yes rfl rfl rfl (show _ = _ from rk_at hk (e := ⟨42, .guard⟩) (by simp) rfl rfl rfl)) (exec_bs rfl (by simp only [List.map_toArray, List.map_cons, List.map_nil, Act.eval, e109, e110, e111, e112, e113]) (run_bs5 cA cW cell0 cE cE w')) ⟨_, _, rfl, RdC.lit w' [cA, cW, cell0, cE, cE]⟩ (Chg.of_below (belA _ _) _)
      refine RSteps.cons (fun a w' hc hp hk => ?_) ?_
      · obtain ⟨A114, c114, e114, r114⟩ : ∃ A c, (a.tmps.getD 114 undef) = .slice A ([cA, cW, cell0, cE, cE] : List Cell).length c ∧ RdC w' A c [cA, cW, cell0, cE, cE] := (rk_at hk (e := ⟨53, .data⟩) (by simp) rfl rfl rfl)
        have HW := HB.out.trans ((chg_none hc).mono HB.out.size)
        exact ro_call (wanted_yes rfl rfl rfl (show _ = _ from rk_at hk (e := ⟨42, .guard⟩) (by simp) rfl rfl rfl)) rfl (by simp only [List.map_toArray, List.map_cons, List.map_nil, Act.eval, e114] <;> rfl) (fun _ _ => by kernel_rfl) ((l06hard_any A114 ([cA, cW, cell0, cE, cE] : List Cell).length c114 w').mono fun e w2 ⟨h1, h2⟩ => ⟨_, h1, ⟨A114, c114, rfl, (r114 : RdC w' A114 c114 [cA, cW, cell0, cE, cE]).bel h2⟩, Chg.of_below h2 _⟩)
      refine RSteps.cons (fun a w' hc hp hk => ?_) ?_
      · obtain ⟨A108, c108, e108, r108⟩ : ∃ A c, (a.tmps.getD 108 undef) = .agg #[.slice A ([cA, cW, cell0] : List Cell).length c, .bool false] ∧ RdC w' A c [cA, cW, cell0] := (rk_at hk (e := ⟨47, .data⟩) (by simp) rfl rfl rfl)
        obtain ⟨A115, c115, e115, r115⟩ : ∃ A c, (a.tmps.getD 115 undef) = .agg #[.slice A ([cA, cW, cell0, cE, cE] : List Cell).length c, .bool false] ∧ RdC w' A c [cA, cW, cell0, cE, cE] := (rk_at hk (e := ⟨54, .data⟩) (by simp) rfl rfl rfl)
        have HW := HB.out.trans ((chg_none hc).mono HB.out.size)
        exact ro_call (wanted_yes rfl rfl rfl (show _ = _ from rk_at hk (e := ⟨42, .guard⟩) (by simp) rfl rfl rfl)) rfl (by simp only [List.map_toArray, List.map_cons, List.map_nil, Act.eval, e108, e115] <;> rfl) (fun _ _ => by kernel_rfl) (yes_of (l06fits_any A108 c108 [cA, cW, cell0] false (5) (fitTo 5 [cA, cW, cell0]) false 0 A115 c115 [cA, cW, cell0, cE, cE] false 0 w' (fun w3 hb3 => lineFit_yes A108 c108 [cA, cW, cell0] false 5 (by decide) w3 ((HT.out.bel HW).bel hb3) (r108.bel hb3) (by decide) (by decide +kernel)) r115 (by decide +kernel) (by decide)) (by decide +kernel))
      refine RSteps.cons (fun a w' hc hp hk => ?_) ?_
      · have e116 : a.tmps.getD 116 undef = (.bool true : Value) := (rk_at hk (e := ⟨55, .data⟩) (by simp) rfl rfl rfl)
        have f116 := gd e116
        exact ro_pure (v := .bool false) (wanted_yes rfl rfl rfl (show _ = _ from rk_at hk (e := ⟨42, .guard⟩) (by simp) rfl rfl rfl)) (by simp [execOp, Act.eval, e116, f116, go_sem]) rfl (Chg.refl _ _)
      refine RSteps.cons (fun a w' hc hp hk => ?_) ?_
      · have e103 : a.tmps.getD 103 undef = (.bool false : Value) := (rk_at hk (e := ⟨42, .data⟩) (by simp) rfl rfl rfl)
        have f103 := gd e103
        have e117 : a.tmps.getD 117 undef = (.bool false : Value) := (rk_at hk (e := ⟨56, .data⟩) (by simp) rfl rfl rfl)
        have f117 := gd e117
        exact ro_pure (v := .bool false) (wanted_none rfl) (by simp [execOp, Act.eval, e103, f103, e117, f117, go_sem]) rfl (Chg.refl _ _)
      refine RSteps.cons (fun a w' hc hp hk => ?_) ?_
      · have e118 : a.tmps.getD 118 undef = (.bool false : Value) := (rk_at hk (e := ⟨57, .data⟩) (by simp) rfl rfl rfl)
        have f118 := gd e118
        exact ro_pure (v := .bool false) (wanted_none rfl) (by simp [execOp, Act.eval, e118, f118, go_sem]) rfl (Chg.refl _ _)
      refine RSteps.cons (fun a w' hc hp hk => ?_) ?_
      · have e1 : a.tmps.getD 1 undef = (.pointer (some ⟨b1, 0, none⟩) : Value) := (rk_same hk 1 (by kernel_rfl)).trans rfl
        have f1 := gd e1
        have hx := (K0.out.bel (chg_none hc)).h1.cellAt
        exact ro_pure (v := .agg (cv cA)) (wanted_yes rfl rfl rfl (show _ = _ from rk_at hk (e := ⟨58, .guard⟩) (by simp) rfl rfl rfl)) (by simp [execOp, Act.eval, e1, f1, go_sem, hx]) rfl (Chg.refl _ _)
      refine RSteps.cons (fun a w' hc hp hk => ?_) ?_
      · have e2 : a.tmps.getD 2 undef = (.pointer (some ⟨b2, 0, none⟩) : Value) := (rk_same hk 2 (by kernel_rfl)).trans rfl
        have f2 := gd e2
        have hx := (K0.out.bel (chg_none hc)).h2.cellAt
        exact ro_pure (v := .agg (cv cW)) (wanted_yes rfl rfl rfl (show _ = _ from rk_at hk (e := ⟨58, .guard⟩) (by simp) rfl rfl rfl)) (by simp [execOp, Act.eval, e2, f2, go_sem, hx]) rfl (Chg.refl _ _)
      refine RSteps.cons (fun a w' hc hp hk => ?_) ?_
      · have e3 : a.tmps.getD 3 undef = (.pointer (some ⟨b3, 0, none⟩) : Value) := (rk_same hk 3 (by kernel_rfl)).trans rfl
        have f3 := gd e3
        have hx := (K0.out.bel (chg_none hc)).h3.cellAt
        exact ro_pure (v := .agg (cv cell0)) (wanted_yes rfl rfl rfl (show _ = _ from rk_at hk (e := ⟨58, .guard⟩) (by simp) rfl rfl rfl)) (by simp [execOp, Act.eval, e3, f3, go_sem, hx]) rfl (Chg.refl _ _)
      refine RSteps.cons (fun a w' hc hp hk => ?_) ?_
      · have e120 : a.tmps.getD 120 undef = (.agg (cv cA) : Value) := (rk_at hk (e := ⟨59, .data⟩) (by simp) rfl rfl rfl)
        have f120 := gd e120
        have e121 : a.tmps.getD 121 undef = (.agg (cv cW) : Value) := (rk_at hk (e := ⟨60, .data⟩) (by simp) rfl rfl rfl)
        have f121 := gd e121
        have e122 : a.tmps.getD 122 undef = (.agg (cv cell0) : Value) := (rk_at hk (e := ⟨61, .data⟩) (by simp) rfl rfl rfl)
        have f122 := gd e122
        exact rstep_value (wanted_yes rfl rfl rfl (show _ = _ from rk_at hk (e := ⟨58, .guard⟩) (by simp) rfl rfl rfl)) (exec_bs rfl (by simp only [List.map_toArray, List.map_cons, List.map_nil, Act.eval, e120, e121, e122]) (run_bs3 cA cW cell0 w')) ⟨_, _, rfl, RdC.lit w' [cA, cW, cell0]⟩ (Chg.of_below (belA _ _) _)
      refine RSteps.cons (fun a w' hc hp hk => ?_) ?_
      · obtain ⟨A123, c123, e123, r123⟩ : ∃ A c, (a.tmps.getD 123 undef) = .slice A ([cA, cW, cell0] : List Cell).length c ∧ RdC w' A c [cA, cW, cell0] := (rk_at hk (e := ⟨62, .data⟩) (by simp) rfl rfl rfl)
        have HW := HB.out.trans ((chg_none hc).mono HB.out.size)
        exact ro_call (wanted_yes rfl rfl rfl (show _ = _ from rk_at hk (e := ⟨58, .guard⟩) (by simp) rfl rfl rfl)) rfl (by simp only [List.map_toArray, List.map_cons, List.map_nil, Act.eval, e123] <;> rfl) (fun _ _ => by kernel_rfl) ((l06hard_any A123 ([cA, cW, cell0] : List Cell).length c123 w').mono fun e w2 ⟨h1, h2⟩ => ⟨_, h1, ⟨A123, c123, rfl, (r123 : RdC w' A123 c123 [cA, cW, cell0]).bel h2⟩, Chg.of_below h2 _⟩)
      refine RSteps.cons (fun a w' hc hp hk => ?_) ?_
      · have e6 : a.tmps.getD 6 undef = (.pointer (some ⟨b6, 0, none⟩) : Value) := (rk_same hk 6 (by kernel_rfl)).trans rfl
        have f6 := gd e6
        have hx := ((K0.out.h6).bel (chg_none hc)).cell
        exact ro_pure (v := .agg #[.slice none 0 0, .bool false]) (wanted_yes rfl rfl rfl (show _ = _ from rk_at hk (e := ⟨58, .guard⟩) (by simp) rfl rfl rfl)) (by simp [execOp, Act.eval, e6, f6, go_sem, hx]) rfl (Chg.refl _ _)
      refine RSteps.cons (fun a w' hc hp hk => ?_) ?_
      · have e125 : a.tmps.getD 125 undef = (.agg #[.slice none 0 0, .bool false] : Value) := (rk_at hk (e := ⟨64, .data⟩) (by simp) rfl rfl rfl)
        have f125 := gd e125
        obtain ⟨A124, c124, e124, r124⟩ : ∃ A c, (a.tmps.getD 124 undef) = .agg #[.slice A ([cA, cW, cell0] : List Cell).length c, .bool false] ∧ RdC w' A c [cA, cW, cell0] := (rk_at hk (e := ⟨63, .data⟩) (by simp) rfl rfl rfl)
        have HW := HB.out.trans ((chg_none hc).mono HB.out.size)
        exact ro_call (wanted_yes rfl rfl rfl (show _ = _ from rk_at hk (e := ⟨58, .guard⟩) (by simp) rfl rfl rfl)) rfl (by simp only [List.map_toArray, List.map_cons, List.map_nil, Act.eval, e124, e125] <;> rfl) (fun _ _ => by kernel_rfl) (yes_of (l06fits_any A124 c124 [cA, cW, cell0] false (-1) [] false 2 (none) 0 [] false 2 w' (fun w3 hb3 => lineFit_no A124 c124 [cA, cW, cell0] false (-1) w3 ((HT.out.bel HW).bel hb3) (r124.bel hb3) (by decide) (by omega)) (RdC.nil w') (by decide +kernel) (by decide)) (by decide +kernel))
      refine RSteps.cons (fun a w' hc hp hk => ?_) ?_
      · have e126 : a.tmps.getD 126 undef = (.bool true : Value) := (rk_at hk (e := ⟨65, .data⟩) (by simp) rfl rfl rfl)
        have f126 := gd e126
        exact ro_pure (v := .bool false) (wanted_yes rfl rfl rfl (show _ = _ from rk_at hk (e := ⟨58, .guard⟩) (by simp) rfl rfl rfl)) (by simp [execOp, Act.eval, e126, f126, go_sem]) rfl (Chg.refl _ _)
      refine RSteps.cons (fun a w' hc hp hk => ?_) ?_
      · have e119 : a.tmps.getD 119 undef = (.bool false : Value) := (rk_at hk (e := ⟨58, .data⟩) (by simp) rfl rfl rfl)
        have f119 := gd e119
        have e127 : a.tmps.getD 127 undef = (.bool false : Value) := (rk_at hk (e := ⟨66, .data⟩) (by simp) rfl rfl rfl)
        have f127 := gd e127
        exact ro_pure (v := .bool false) (wanted_none rfl) (by simp [execOp, Act.eval, e119, f119, e127, f127, go_sem]) rfl (Chg.refl _ _)
      refine RSteps.cons (fun a w' hc hp hk => ?_) ?_
      · have e128 : a.tmps.getD 128 undef = (.bool false : Value) := (rk_at hk (e := ⟨67, .data⟩) (by simp) rfl rfl rfl)
        have f128 := gd e128
        exact ro_pure (v := .bool false) (wanted_none rfl) (by simp [execOp, Act.eval, e128, f128, go_sem]) rfl (Chg.refl _ _)
      refine RSteps.cons (fun a w' hc hp hk => ?_) ?_
      · have e4 : a.tmps.getD 4 undef = (.pointer (some ⟨b4, 0, none⟩) : Value) := (rk_same hk 4 (by kernel_rfl)).trans rfl
        have f4 := gd e4
        have hx := (K0.out.bel (chg_none hc)).h4.cellAt
        exact ro_pure (v := .agg (cv cE)) (wanted_yes rfl rfl rfl (show _ = _ from rk_at hk (e := ⟨68, .guard⟩) (by simp) rfl rfl rfl)) (by simp [execOp, Act.eval, e4, f4, go_sem, hx]) rfl (Chg.refl _ _)
      refine RSteps.cons (fun a w' hc hp hk => ?_) ?_
      · have e1 : a.tmps.getD 1 undef = (.pointer (some ⟨b1, 0, none⟩) : Value) := (rk_same hk 1 (by kernel_rfl)).trans rfl
        have f1 := gd e1
        have hx := (K0.out.bel (chg_none hc)).h1.cellAt
        exact ro_pure (v := .agg (cv cA)) (wanted_yes rfl rfl rfl (show _ = _ from rk_at hk (e := ⟨68, .guard⟩) (by simp) rfl rfl rfl)) (by simp [execOp, Act.eval, e1, f1, go_sem, hx]) rfl (Chg.refl _ _)
      refine RSteps.cons (fun a w' hc hp hk => ?_) ?_
      · have e4 : a.tmps.getD 4 undef = (.pointer (some ⟨b4, 0, none⟩) : Value) := (rk_same hk 4 (by kernel_rfl)).trans rfl
        have f4 := gd e4
        have hx := (K0.out.bel (chg_none hc)).h4.cellAt
        exact ro_pure (v := .agg (cv cE)) (wanted_yes rfl rfl rfl (show _ = _ from rk_at hk (e := ⟨68, .guard⟩) (by simp) rfl rfl rfl)) (by simp [execOp, Act.eval, e4, f4, go_sem, hx]) rfl (Chg.refl _ _)
      refine RSteps.cons (fun a w' hc hp hk => ?_) ?_
      · have e4 : a.tmps.getD 4 undef = (.pointer (some ⟨b4, 0, none⟩) : Value) := (rk_same hk 4 (by kernel_rfl)).trans rfl
        have f4 := gd e4
        have hx := (K0.out.bel (chg_none hc)).h4.cellAt
        exact ro_pure (v := .agg (cv cE)) (wanted_yes rfl rfl rfl (show _ = _ from rk_at hk (e := ⟨68, .guard⟩) (by simp) rfl rfl rfl)) (by simp [execOp, Act.eval, e4, f4, go_sem, hx]) rfl (Chg.refl _ _)
      refine RSteps.cons (fun a w' hc hp hk => ?_) ?_
      · have e130 : a.tmps.getD 130 undef = (.agg (cv cE) : Value) := (rk_at hk (e := ⟨69, .data⟩) (by simp) rfl rfl rfl)
        have f130 := gd e130
        have e131 : a.tmps.getD 131 undef = (.agg (cv cA) : Value) := (rk_at hk (e := ⟨70, .data⟩) (by simp) rfl rfl rfl)
        have f131 := gd e131
        have e132 : a.tmps.getD 132 undef = (.agg (cv cE) : Value) := (rk_at hk (e := ⟨71, .data⟩) (by simp) rfl rfl rfl)
        have f132 := gd e132
        have e133 : a.tmps.getD 133 undef = (.agg (cv cE) : Value) := (rk_at hk (e := ⟨72, .data⟩) (by simp) rfl rfl rfl)
        have f133 := gd e133
        exact rstep_value (wanted_yes rfl rfl rfl (show _ = _ from rk_at hk (e := ⟨68, .guard⟩) (by simp) rfl rfl rfl)) (exec_bs rfl (by simp only [List.map_toArray, List.map_cons, List.map_nil, Act.eval, e130, e131, e132, e133]) (run_bs4 cE cA cE cE w')) ⟨_, _, rfl, RdC.lit w' [cE, cA, cE, cE]⟩ (Chg.of_below (belA _ _) _)
      refine RSteps.cons (fun a w' hc hp hk => ?_) ?_
      · obtain ⟨A134, c134, e134, r134⟩ : ∃ A c, (a.tmps.getD 134 undef) = .slice A ([cE, cA, cE, cE] : List Cell).length c ∧ RdC w' A c [cE, cA, cE, cE] := (rk_at hk (e := ⟨73, .data⟩) (by simp) rfl rfl rfl)
        have HW := HB.out.trans ((chg_none hc).mono HB.out.size)
        exact ro_call (wanted_yes rfl rfl rfl (show _ = _ from rk_at hk (e := ⟨68, .guard⟩) (by simp) rfl rfl rfl)) rfl (by simp only [List.map_toArray, List.map_cons, List.map_nil, Act.eval, e134] <;> rfl) (fun _ _ => by kernel_rfl) ((l06hard_any A134 ([cE, cA, cE, cE] : List Cell).length c134 w').mono fun e w2 ⟨h1, h2⟩ => ⟨_, h1, ⟨A134, c134, rfl, (r134 : RdC w' A134 c134 [cE, cA, cE, cE]).bel h2⟩, Chg.of_below h2 _⟩)
      refine RSteps.cons (fun a w' hc hp hk => ?_) ?_
      · obtain ⟨A135, c135, e135, r135⟩ : ∃ A c, (a.tmps.getD 135 undef) = .agg #[.slice A ([cE, cA, cE, cE] : List Cell).length c, .bool false] ∧ RdC w' A c [cE, cA, cE, cE] := (rk_at hk (e := ⟨74, .data⟩) (by simp) rfl rfl rfl)
        have HW := HB.out.trans ((chg_none hc).mono HB.out.size)
        exact ro_call (wanted_yes rfl rfl rfl (show _ = _ from rk_at hk (e := ⟨68, .guard⟩) (by simp) rfl rfl rfl)) rfl (by simp only [List.map_toArray, List.map_cons, List.map_nil, Act.eval, e135] <;> rfl) (fun _ _ => by kernel_rfl) ((lineText_any A135 c135 [cE, cA, cE, cE] false w' r135 (by decide)).mono fun e w2 ⟨h1, h2⟩ => ⟨_, h1, congrArg Value.string (by decide +kernel), Chg.of_below h2 _⟩)
      refine RSteps.cons (fun a w' hc hp hk => ?_) ?_
      · have e136 : a.tmps.getD 136 undef = (.string ⟨#[32, 97]⟩ : Value) := (rk_at hk (e := ⟨75, .data⟩) (by simp) rfl rfl rfl)
        have f136 := gd e136
        exact ro_pure (v := .bool false) (wanted_yes rfl rfl rfl (show _ = _ from rk_at hk (e := ⟨68, .guard⟩) (by simp) rfl rfl rfl)) (by simp [execOp, Act.eval, e136, f136, go_sem]) rfl (Chg.refl _ _)
      refine RSteps.cons (fun a w' hc hp hk => ?_) ?_
      · have e129 : a.tmps.getD 129 undef = (.bool false : Value) := (rk_at hk (e := ⟨68, .data⟩) (by simp) rfl rfl rfl)
        have f129 := gd e129
        have e137 : a.tmps.getD 137 undef = (.bool false : Value) := (rk_at hk (e := ⟨76, .data⟩) (by simp) rfl rfl rfl)
        have f137 := gd e137
        exact ro_pure (v := .bool false) (wanted_none rfl) (by simp [execOp, Act.eval, e129, f129, e137, f137, go_sem]) rfl (Chg.refl _ _)
      exact RSteps.nil
    · intro vs wz hc hv
      have q : vs 77 = .bool false := hv 77 (by decide) rfl
      have HC := Lib.hid (chg_none hc)
      clear hc hv
      simp only [putL, Act.put, Nat.zero_add, Nat.reduceAdd, q, List.setIfInBounds_toArray, List.set_cons_succ, List.set_cons_zero]
      clear q
      have K0 := Lib.hid (K0.out.bel HC.out)
      have K7 := Lib.hid (K7.out.bel HC.out)
      have R7 := Lib.hid (R7.out.bel HC.out)
      have HB := Lib.hid (HB.out.trans (HC.out.mono HB.out.size))
      clear HC
      go_upto_region 10 with (fail)
      simp only [List.append_eq, List.cons_append, List.nil_append]
      refine wp_region_multi (by kernel_rfl) (by kernel_rfl) (by kernel_rfl) (fun i => none) (fun i k h => ?_) (noBlk) [Sr.val (.agg (cv cA)), Sr.val (.agg (cv cW)), Sr.val (.agg (cv cell0)), Sr.val (.agg (cv cE)), Sr.cells [cA, cW, cell0, cE], Sr.rline [cA, cW, cell0, cE] false, Sr.val (.agg (cv cA)), Sr.cells [cA], Sr.cells [cA], Sr.val (.agg (cv cA)), Sr.val (.agg (cv cE)), Sr.val (.agg (cv cA)), Sr.val (.agg (cv cE)), Sr.cells [cA, cE, cA, cE], Sr.rline [cA, cE, cA, cE] false, Sr.val (.bool true), Sr.val (.bool false), Sr.val (.bool false), Sr.val (.agg (cv cW)), Sr.val (.agg (cv cell0)), Sr.val (.agg (cv cW)), Sr.val (.agg (cv cell0)), Sr.cells [cW, cell0, cW, cell0], Sr.rline [cW, cell0, cW, cell0] false, Sr.val (.agg (cv cA)), Sr.val (.agg (cv cA)), Sr.cells [cA, cA], Sr.cells [cA, cA], Sr.val (.agg (cv cE)), Sr.val (.agg (cv cA)), Sr.val (.agg (cv cA)), Sr.val (.agg (cv cE)), Sr.cells [cE, cA, cA, cE], Sr.rline [cE, cA, cA, cE] false, Sr.val (.bool true), Sr.val (.bool false), Sr.val (.bool false), Sr.val (.bool false), Sr.val (.agg (cv cA)), Sr.val (.agg (cv cE)), Sr.cells [cA, cE], Sr.rline [cA, cE] false, Sr.val (.agg (cv cW)), Sr.val (.agg (cv cell0)), Sr.cells [cW, cell0], Sr.cells [cW, cell0], Sr.val (.agg #[.slice none 0 0, .bool false]), Sr.val (.bool true), Sr.val (.bool false), Sr.val (.bool false), Sr.val (.bool false), Sr.val (.agg (cv cA)), Sr.val (.agg (cv cE)), Sr.cells [cA, cE], Sr.rline [cA, cE] false, Sr.val (.agg (cv cA)), Sr.val (.agg (cv cE)), Sr.cells [cA, cE], Sr.rline [cA, cE] false, Sr.val (.bool true), Sr.val (.bool false), Sr.val (.bool false), Sr.val (.bool false), Sr.val (.agg (cv cA)), Sr.val (.agg (cv cE)), Sr.cells [cA, cE], Sr.rline [cA, cE] false, Sr.val (.agg (cv cell0)), Sr.cells [cell0], Sr.cells [cell0], Sr.val (.agg #[.slice none 0 0, .bool false]), Sr.val (.bool true), Sr.val (.bool false), Sr.val (.bool false)] [] [] (fun p hp => by cases hp) (fun p hp => by cases hp) (fun p hp => by cases hp) (fun p hp => by cases hp) ?_ ?_ ?_
      · cases h
      · intro q hq
        cases hq
      · refine RSteps.cons (fun a w' hc hp hk => ?_) ?_
        · have e1 : a.tmps.getD 1 undef = (.pointer (some ⟨b1, 0, none⟩) : Value) := (rk_same hk 1 (by kernel_rfl)).trans rfl
          have f1 := gd e1
          have hx := (K0.out.bel (chg_none hc)).h1.cellAt
          exact ro_pure (v := .agg (cv cA)) (wanted_none rfl) (by simp [execOp, Act.eval, e1, f1, go_sem, hx]) rfl (Chg.refl _ _)
        refine RSteps.cons (fun a w' hc hp hk => ?_) ?_
        · have e2 : a.tmps.getD 2 undef = (.pointer (some ⟨b2, 0, none⟩) : Value) := (rk_same hk 2 (by kernel_rfl)).trans rfl
          have f2 := gd e2
          have hx := (K0.out.bel (chg_none hc)).h2.cellAt
          exact ro_pure (v := .agg (cv cW)) (wanted_none rfl) (by simp [execOp, Act.eval, e2, f2, go_sem, hx]) rfl (Chg.refl _ _)
        refine RSteps.cons (fun a w' hc hp hk => ?_) ?_
        · have e3 : a.tmps.getD 3 undef = (.pointer (some ⟨b3, 0, none⟩) : Value) := (rk_same hk 3 (by kernel_rfl)).trans rfl
          have f3 := gd e3
          have hx := (K0.out.bel (chg_none hc)).h3.cellAt
          exact ro_pure (v := .agg (cv cell0)) (wanted_none rfl) (by simp [execOp, Act.eval, e3, f3, go_sem, hx]) rfl (Chg.refl _ _)
        refine RSteps.cons (fun a w' hc hp hk => ?_) ?_
        · have e4 : a.tmps.getD 4 undef = (.pointer (some ⟨b4, 0, none⟩) : Value) := (rk_same hk 4 (by kernel_rfl)).trans rfl
          have f4 := gd e4
          have hx := (K0.out.bel (chg_none hc)).h4.cellAt
          exact ro_pure (v := .agg (cv cE)) (wanted_none rfl) (by simp [execOp, Act.eval, e4, f4, go_sem, hx]) rfl (Chg.refl _ _)
        refine RSteps.cons (fun a w' hc hp hk => ?_) ?_
        · have e139 : a.tmps.getD 139 undef = (.agg (cv cA) : Value) := (rk_at hk (e := ⟨0, .data⟩) (by simp) rfl rfl rfl)
          have f139 := gd e139
          have e140 : a.tmps.getD 140 undef = (.agg (cv cW) : Value) := (rk_at hk (e := ⟨1, .data⟩) (by simp) rfl rfl rfl)
          have f140 := gd e140
          have e141 : a.tmps.getD 141 undef = (.agg (cv cell0) : Value) := (rk_at hk (e := ⟨2, .data⟩) (by simp) rfl rfl rfl)
          have f141 := gd e141
          have e142 : a.tmps.getD 142 undef = (.agg (cv cE) : Value) := (rk_at hk (e := ⟨3, .data⟩) (by simp) rfl rfl rfl)
          have f142 := gd e142
          exact rstep_value (wanted_none rfl) (exec_bs rfl (by simp only [List.map_toArray, List.map_cons, List.map_nil, Act.eval, e139, e140, e141, e142]) (run_bs4 cA cW cell0 cE w')) ⟨_, _, rfl, RdC.lit w' [cA, cW, cell0, cE]⟩ (Chg.of_below (belA _ _) _)
        refine RSteps.cons (fun a w' hc hp hk => ?_) ?_
        · obtain ⟨A143, c143, e143, r143⟩ : ∃ A c, (a.tmps.getD 143 undef) = .slice A ([cA, cW, cell0, cE] : List Cell).length c ∧ RdC w' A c [cA, cW, cell0, cE] := (rk_at hk (e := ⟨4, .data⟩) (by simp) rfl rfl rfl)
          have HW := HB.out.trans ((chg_none hc).mono HB.out.size)
          exact ro_call (wanted_none rfl) rfl (by simp only [List.map_toArray, List.map_cons, List.map_nil, Act.eval, e143] <;> rfl) (fun _ _ => by kernel_rfl) ((l06hard_any A143 ([cA, cW, cell0, cE] : List Cell).length c143 w').mono fun e w2 ⟨h1, h2⟩ => ⟨_, h1, ⟨A143, c143, rfl, (r143 : RdC w' A143 c143 [cA, cW, cell0, cE]).bel h2⟩, Chg.of_below h2 _⟩)
        refine RSteps.cons (fun a w' hc hp hk => ?_) ?_
        · have e1 : a.tmps.getD 1 undef = (.pointer (some ⟨b1, 0, none⟩) : Value) := (rk_same hk 1 (by kernel_rfl)).trans rfl
          have f1 := gd e1
          have hx := (K0.out.bel (chg_none hc)).h1.cellAt
          exact ro_pure (v := .agg (cv cA)) (wanted_none rfl) (by simp [execOp, Act.eval, e1, f1, go_sem, hx]) rfl (Chg.refl _ _)
        refine RSteps.cons (fun a w' hc hp hk => ?_) ?_
        · have e145 : a.tmps.getD 145 undef = (.agg (cv cA) : Value) := (rk_at hk (e := ⟨6, .data⟩) (by simp) rfl rfl rfl)
          have f145 := gd e145
          exact rstep_value (wanted_none rfl) (exec_bs rfl (by simp only [List.map_toArray, List.map_cons, List.map_nil, Act.eval, e145]) (run_bs1 cA w')) ⟨_, _, rfl, RdC.lit w' [cA]⟩ (Chg.of_below (belA _ _) _)
        refine RSteps.cons (fun a w' hc hp hk => ?_) ?_
        · obtain ⟨A146, c146, e146, r146⟩ : ∃ A c, (a.tmps.getD 146 undef) = .slice A ([cA] : List Cell).length c ∧ RdC w' A c [cA] := (rk_at hk (e := ⟨7, .data⟩) (by simp) rfl rfl rfl)
          have HW := HB.out.trans ((chg_none hc).mono HB.out.size)
          exact ro_call (wanted_none rfl) rfl (by simp only [List.map_toArray, List.map_cons, List.map_nil, Act.eval, e146] <;> rfl) (fun _ _ => by kernel_rfl) ((l06list_any A146 _ c146 w').mono fun e w2 ⟨h1, h2⟩ => ⟨_, h1, ⟨A146, c146, rfl, h2 ▸ r146⟩, h2 ▸ Chg.refl _ _⟩)
        refine RSteps.cons (fun a w' hc hp hk => ?_) ?_
        · have e1 : a.tmps.getD 1 undef = (.pointer (some ⟨b1, 0, none⟩) : Value) := (rk_same hk 1 (by kernel_rfl)).trans rfl
          have f1 := gd e1
          have hx := (K0.out.bel (chg_none hc)).h1.cellAt
          exact ro_pure (v := .agg (cv cA)) (wanted_none rfl) (by simp [execOp, Act.eval, e1, f1, go_sem, hx]) rfl (Chg.refl _ _)
        refine RSteps.cons (fun a w' hc hp hk => ?_) ?_
        · have e4 : a.tmps.getD 4 undef = (.pointer (some ⟨b4, 0, none⟩) : Value) := (rk_same hk 4 (by kernel_rfl)).trans rfl
          have f4 := gd e4
          have hx := (K0.out.bel (chg_none hc)).h4.cellAt
          exact ro_pure (v := .agg (cv cE)) (wanted_none rfl) (by simp [execOp, Act.eval, e4, f4, go_sem, hx]) rfl (Chg.refl _ _)
        refine RSteps.cons (fun a w' hc hp hk => ?_) ?_
        · have e1 : a.tmps.getD 1 undef = (.pointer (some ⟨b1, 0, none⟩) : Value) := (rk_same hk 1 (by kernel_rfl)).trans rfl
          have f1 := gd e1
          have hx := (K0.out.bel (chg_none hc)).h1.cellAt
          exact ro_pure (v := .agg (cv cA)) (wanted_none rfl) (by simp [execOp, Act.eval, e1, f1, go_sem, hx]) rfl (Chg.refl _ _)
        refine RSteps.cons (fun a w' hc hp hk => ?_) ?_
        · have e4 : a.tmps.getD 4 undef = (.pointer (some ⟨b4, 0, none⟩) : Value) := (rk_same hk 4 (by kernel_rfl)).trans rfl
          have f4 := gd e4
          have hx := (K0.out.bel (chg_none hc)).h4.cellAt
          exact ro_pure (v := .agg (cv cE)) (wanted_none rfl) (by simp [execOp, Act.eval, e4, f4, go_sem, hx]) rfl (Chg.refl _ _)
        refine RSteps.cons (fun a w' hc hp hk => ?_) ?_
        · have e148 : a.tmps.getD 148 undef = (.agg (cv cA) : Value) := (rk_at hk (e := ⟨9, .data⟩) (by simp) rfl rfl rfl)
          have f148 := gd e148
          have e149 : a.tmps.getD 149 undef = (.agg (cv cE) : Value) := (rk_at hk (e := ⟨10, .data⟩) (by simp) rfl rfl rfl)
          have f149 := gd e149
          have e150 : a.tmps.getD 150 undef = (.agg (cv cA) : Value) := (rk_at hk (e := ⟨11, .data⟩) (by simp) rfl rfl rfl)
          have f150 := gd e150
          have e151 : a.tmps.getD 151 undef = (.agg (cv cE) : Value) := (rk_at hk (e := ⟨12, .data⟩) (by simp) rfl rfl rfl)
          have f151 := gd e151
          exact rstep_value (wanted_none rfl) (exec_bs rfl (by simp only [List.map_toArray, List.map_cons, List.map_nil, Act.eval, e148, e149, e150, e151]) (run_bs4 cA cE cA cE w')) ⟨_, _, rfl, RdC.lit w' [cA, cE, cA, cE]⟩ (Chg.of_below (belA _ _) _)
        refine RSteps.cons (fun a w' hc hp hk => ?_) ?_
        · obtain ⟨A152, c152, e152, r152⟩ : ∃ A c, (a.tmps.getD 152 undef) = .slice A ([cA, cE, cA, cE] : List Cell).length c ∧ RdC w' A c [cA, cE, cA, cE] := (rk_at hk (e := ⟨13, .data⟩) (by simp) rfl rfl rfl)
          have HW := HB.out.trans ((chg_none hc).mono HB.out.size)
          exact ro_call (wanted_none rfl) rfl (by simp only [List.map_toArray, List.map_cons, List.map_nil, Act.eval, e152] <;> rfl) (fun _ _ => by kernel_rfl) ((l06hard_any A152 ([cA, cE, cA, cE] : List Cell).length c152 w').mono fun e w2 ⟨h1, h2⟩ => ⟨_, h1, ⟨A152, c152, rfl, (r152 : RdC w' A152 c152 [cA, cE, cA, cE]).bel h2⟩, Chg.of_below h2 _⟩)
        refine RSteps.cons (fun a w' hc hp hk => ?_) ?_
        · obtain ⟨A144, c144, e144, r144⟩ : ∃ A c, (a.tmps.getD 144 undef) = .agg #[.slice A ([cA, cW, cell0, cE] : List Cell).length c, .bool false] ∧ RdC w' A c [cA, cW, cell0, cE] := (rk_at hk (e := ⟨5, .data⟩) (by simp) rfl rfl rfl)
          obtain ⟨A147, c147, e147, r147⟩ : ∃ A c, (a.tmps.getD 147 undef) = .slice A ([cA] : List Cell).length c ∧ RdC w' A c [cA] := (rk_at hk (e := ⟨8, .data⟩) (by simp) rfl rfl rfl)
          obtain ⟨A153, c153, e153, r153⟩ : ∃ A c, (a.tmps.getD 153 undef) = .agg #[.slice A ([cA, cE, cA, cE] : List Cell).length c, .bool false] ∧ RdC w' A c [cA, cE, cA, cE] := (rk_at hk (e := ⟨14, .data⟩) (by simp) rfl rfl rfl)
          have HW := HB.out.trans ((chg_none hc).mono HB.out.size)
          exact ro_call (wanted_none rfl) rfl (by simp only [List.map_toArray, List.map_cons, List.map_nil, Act.eval, e144, e147, e153] <;> rfl) (fun _ _ => by kernel_rfl) (yes_of (l06puts_any A144 c144 [cA, cW, cell0, cE] false 2 A147 ([cA] : List Cell).length c147 (putOf 2 [cA] [cA, cW, cell0, cE] false).1 (putOf 2 [cA] [cA, cW, cell0, cE] false).2.1 (putOf 2 [cA] [cA, cW, cell0, cE] false).2.2 A153 c153 [cA, cE, cA, cE] false 0 w' (fun w3 hb3 => linePut_any A144 c144 [cA, cW, cell0, cE] false 2 (by omega) A147 c147 [cA] w3 ((HT.out.bel HW).bel hb3) (r144.bel hb3) (r147.bel hb3) (by decide) (by decide)) r153 (by decide +kernel) (by decide)) (by decide +kernel))
        refine RSteps.cons (fun a w' hc hp hk => ?_) ?_
        · have e154 : a.tmps.getD 154 undef = (.bool true : Value) := (rk_at hk (e := ⟨15, .data⟩) (by simp) rfl rfl rfl)
          have f154 := gd e154
          exact ro_pure (v := .bool false) (wanted_none rfl) (by simp [execOp, Act.eval, e154, f154, go_sem]) rfl (Chg.refl _ _)
        refine RSteps.cons (fun a w' hc hp hk => ?_) ?_
        · have e155 : a.tmps.getD 155 undef = (.bool false : Value) := (rk_at hk (e := ⟨16, .data⟩) (by simp) rfl rfl rfl)
          have f155 := gd e155
          exact ro_pure (v := .bool false) (wanted_none rfl) (by simp [execOp, Act.eval, e155, f155, go_sem]) rfl (Chg.refl _ _)
        refine RSteps.cons (fun a w' hc hp hk => ?_) ?_
        · have e2 : a.tmps.getD 2 undef = (.pointer (some ⟨b2, 0, none⟩) : Value) := (rk_same hk 2 (by kernel_rfl)).trans rfl
          have f2 := gd e2
          have hx := (K0.out.bel (chg_none hc)).h2.cellAt
          exact ro_pure (v := .agg (cv cW)) (wanted_yes rfl rfl rfl (show _ = _ from rk_at hk (e := ⟨17, .guard⟩) (by simp) rfl rfl rfl)) (by simp [execOp, Act.eval, e2, f2, go_sem, hx]) rfl (Chg.refl _ _)
        refine RSteps.cons (fun a w' hc hp hk => ?_) ?_
        · have e3 : a.tmps.getD 3 undef = (.pointer (some ⟨b3, 0, none⟩) : Value) := (rk_same hk 3 (by kernel_rfl)).trans rfl
          have f3 := gd e3
          have hx := (K0.out.bel (chg_none hc)).h3.cellAt
          exact ro_pure (v := .agg (cv cell0)) (wanted_yes rfl rfl rfl (show _ = _ from rk_at hk (e := ⟨17, .guard⟩) (by simp) rfl rfl rfl)) (by simp [execOp, Act.eval, e3, f3, go_sem, hx]) rfl (Chg.refl _ _)
        refine RSteps.cons (fun a w' hc hp hk => ?_) ?_
        · have e2 : a.tmps.getD 2 undef = (.pointer (some ⟨b2, 0, none⟩) : Value) := (rk_same hk 2 (by kernel_rfl)).trans rfl
          have f2 := gd e2
          have hx := (K0.out.bel (chg_none hc)).h2.cellAt
          exact ro_pure (v := .agg (cv cW)) (wanted_yes rfl rfl rfl (show _ = _ from rk_at hk (e := ⟨17, .guard⟩) (by simp) rfl rfl rfl)) (by simp [execOp, Act.eval, e2, f2, go_sem, hx]) rfl (Chg.refl _ _)
        refine RSteps.cons (fun a w' hc hp hk => ?_) ?_
        · have e3 : a.tmps.getD 3 undef = (.pointer (some ⟨b3, 0, none⟩) : Value) := (rk_same hk 3 (by kernel_rfl)).trans rfl
          have f3 := gd e3
          have hx := (K0.out.bel (chg_none hc)).h3.cellAt
          exact ro_pure (v := .agg (cv cell0)) (wanted_yes rfl rfl rfl (show _ = _ from rk_at hk (e := ⟨17, .guard⟩) (by simp) rfl rfl rfl)) (by simp [execOp, Act.eval, e3, f3, go_sem, hx]) rfl (Chg.refl _ _)
        refine RSteps.cons (fun a w' hc hp hk => ?_) ?_
        · have e157 : a.tmps.getD 157 undef = (.agg (cv cW) : Value) := (rk_at hk (e := ⟨18, .data⟩) (by simp) rfl rfl rfl)
          have f157 := gd e157
          have e158 : a.tmps.getD 158 undef = (.agg (cv cell0) : Value) := (rk_at hk (e := ⟨19, .data⟩) (by simp) rfl rfl rfl)
          have f158 := gd e158
          have e159 : a.tmps.getD 159 undef = (.agg (cv cW) : Value) := (rk_at hk (e := ⟨20, .data⟩) (by simp) rfl rfl rfl)
          have f159 := gd e159
          have e160 : a.tmps.getD 160 undef = (.agg (cv cell0) : Value) := (rk_at hk (e := ⟨21, .data⟩) (by simp) rfl rfl rfl)
          have f160 := gd e160
          exact rstep_value (wanted_yes rfl rfl rfl (show _ = _ from rk_at hk (e := ⟨17, .guard⟩) (by simp) rfl rfl rfl)) (exec_bs rfl (by simp only [List.map_toArray, List.map_cons, List.map_nil, Act.eval, e157, e158, e159, e160]) (run_bs4 cW cell0 cW cell0 w')) ⟨_, _, rfl, RdC.lit w' [cW, cell0, cW, cell0]⟩ (Chg.of_below (belA _ _) _)
        refine RSteps.cons (fun a w' hc hp hk => ?_) ?_
        · obtain ⟨A161, c161, e161, r161⟩ : ∃ A c, (a.tmps.getD 161 undef) = .slice A ([cW, cell0, cW, cell0] : List Cell).length c ∧ RdC w' A c [cW, cell0, cW, cell0] := (rk_at hk (e := ⟨22, .data⟩) (by simp) rfl rfl rfl)
          have HW := HB.out.trans ((chg_none hc).mono HB.out.size)
          exact ro_call (wanted_yes rfl rfl rfl (show _ = _ from rk_at hk (e := ⟨17, .guard⟩) (by simp) rfl rfl rfl)) rfl (by simp only [List.map_toArray, List.map_cons, List.map_nil, Act.eval, e161] <;> rfl) (fun _ _ => by kernel_rfl) ((l06hard_any A161 ([cW, cell0, cW, cell0] : List Cell).length c161 w').mono fun e w2 ⟨h1, h2⟩ => ⟨_, h1, ⟨A161, c161, rfl, (r161 : RdC w' A161 c161 [cW, cell0, cW, cell0]).bel h2⟩, Chg.of_below h2 _⟩)
        refine RSteps.cons (fun a w' hc hp hk => ?_) ?_
        · have e1 : a.tmps.getD 1 undef = (.pointer (some ⟨b1, 0, none⟩) : Value) := (rk_same hk 1 (by kernel_rfl)).trans rfl
          have f1 := gd e1
          have hx := (K0.out.bel (chg_none hc)).h1.cellAt
          exact ro_pure (v := .agg (cv cA)) (wanted_yes rfl rfl rfl (show _ = _ from rk_at hk (e := ⟨17, .guard⟩) (by simp) rfl rfl rfl)) (by simp [execOp, Act.eval, e1, f1, go_sem, hx]) rfl (Chg.refl _ _)
        refine RSteps.cons (fun a w' hc hp hk => ?_) ?_
        · have e1 : a.tmps.getD 1 undef = (.pointer (some ⟨b1, 0, none⟩) : Value) := (rk_same hk 1 (by kernel_rfl)).trans rfl
          have f1 := gd e1
          have hx := (K0.out.bel (chg_none hc)).h1.cellAt
          exact ro_pure (v := .agg (cv cA)) (wanted_yes rfl rfl rfl (show _ = _ from rk_at hk (e := ⟨17, .guard⟩) (by simp) rfl rfl rfl)) (by simp [execOp, Act.eval, e1, f1, go_sem, hx]) rfl (Chg.refl _ _)
        refine RSteps.cons (fun a w' hc hp hk => ?_) ?_
        · have e163 : a.tmps.getD 163 undef = (.agg (cv cA) : Value) := (rk_at hk (e := ⟨24, .data⟩) (by simp) rfl rfl rfl)
          have f163 := gd e163
          have e164 : a.tmps.getD 164 undef = (.agg (cv cA) : Value) := (rk_at hk (e := ⟨25, .data⟩) (by simp) rfl rfl rfl)
          have f164 := gd e164
          exact rstep_value (wanted_yes rfl rfl rfl (show _ = _ from rk_at hk (e := ⟨17, .guard⟩) (by simp) rfl rfl rfl)) (exec_bs rfl (by simp only [List.map_toArray, List.map_cons, List.map_nil, Act.eval, e163, e164]) (run_bs2 cA cA w')) ⟨_, _, rfl, RdC.lit w' [cA, cA]⟩ (Chg.of_below (belA _ _) _)
        refine RSteps.cons (fun a w' hc hp hk => ?_) ?_
        · obtain ⟨A165, c165, e165, r165⟩ : ∃ A c, (a.tmps.getD 165 undef) = .slice A ([cA, cA] : List Cell).length c ∧ RdC w' A c [cA, cA] := (rk_at hk (e := ⟨26, .data⟩) (by simp) rfl rfl rfl)
          have HW := HB.out.trans ((chg_none hc).mono HB.out.size)
          exact ro_call (wanted_yes rfl rfl rfl (show _ = _ from rk_at hk (e := ⟨17, .guard⟩) (by simp) rfl rfl rfl)) rfl (by simp only [List.map_toArray, List.map_cons, List.map_nil, Act.eval, e165] <;> rfl) (fun _ _ => by kernel_rfl) ((l06list_any A165 _ c165 w').mono fun e w2 ⟨h1, h2⟩ => ⟨_, h1, ⟨A165, c165, rfl, h2 ▸ r165⟩, h2 ▸ Chg.refl _ _⟩)
        refine RSteps.cons (fun a w' hc hp hk => ?_) ?_
        · have e4 : a.tmps.getD 4 undef = (.pointer (some ⟨b4, 0, none⟩) : Value) := (rk_same hk 4 (by kernel_rfl)).trans rfl
          have f4 := gd e4
          have hx := (K0.out.bel (chg_none hc)).h4.cellAt
          exact ro_pure (v := .agg (cv cE)) (wanted_yes rfl rfl rfl (show _ = _ from rk_at hk (e := ⟨17, .guard⟩) (by simp) rfl rfl rfl)) (by simp [execOp, Act.eval, e4, f4, go_sem, hx]) rfl (Chg.refl _ _)
        refine RSteps.cons (fun a w' hc hp hk => ?_) ?_
        · have e1 : a.tmps.getD 1 undef = (.pointer (some ⟨b1, 0, none⟩) : Value) := (rk_same hk 1 (by kernel_rfl)).trans rfl
          have f1 := gd e1
          have hx := (K0.out.bel (chg_none hc)).h1.cellAt
          exact ro_pure (v := .agg (cv cA)) (wanted_yes rfl rfl rfl (show _ = _ from rk_at hk (e := ⟨17, .guard⟩) (by simp) rfl rfl rfl)) (by simp [execOp, Act.eval, e1, f1, go_sem, hx]) rfl (Chg.refl _ _)
        refine RSteps.cons (fun a w' hc hp hk => ?_) ?_
        · have e1 : a.tmps.getD 1 undef = (.pointer (some ⟨b1, 0, none⟩) : Value) := (rk_same hk 1 (by kernel_rfl)).trans rfl
          have f1 := gd e1
          have hx := (K0.out.bel (chg_none hc)).h1.cellAt
          exact ro_pure (v := .agg (cv cA)) (wanted_yes rfl rfl rfl (show _ = _ from rk_at hk (e := ⟨17, .guard⟩) (by simp) rfl rfl rfl)) (by simp [execOp, Act.eval, e1, f1, go_sem, hx]) rfl (Chg.refl _ _)
        refine RSteps.cons (fun a w' hc hp hk => ?_) ?_
        · have e4 : a.tmps.getD 4 undef = (.pointer (some ⟨b4, 0, none⟩) : Value) := (rk_same hk 4 (by kernel_rfl)).trans rfl
          have f4 := gd e4
          have hx := (K0.out.bel (chg_none hc)).h4.cellAt
          exact ro_pure (v := .agg (cv cE)) (wanted_yes rfl rfl rfl (show _ = _ from rk_at hk (e := ⟨17, .guard⟩) (by simp) rfl rfl rfl)) (by simp [execOp, Act.eval, e4, f4, go_sem, hx]) rfl (Chg.refl _ _)
        refine RSteps.cons (fun a w' hc hp hk => ?_) ?_
        · have e167 : a.tmps.getD 167 undef = (.agg (cv cE) : Value) := (rk_at hk (e := ⟨28, .data⟩) (by simp) rfl rfl rfl)
          have f167 := gd e167
          have e168 : a.tmps.getD 168 undef = (.agg (cv cA) : Value) := (rk_at hk (e := ⟨29, .data⟩) (by simp) rfl rfl rfl)
          have f168 := gd e168
          have e169 : a.tmps.getD 169 undef = (.agg (cv cA) : Value) := (rk_at hk (e := ⟨30, .data⟩) (by simp) rfl rfl rfl)
          have f169 := gd e169
          have e170 : a.tmps.getD 170 undef = (.agg (cv cE) : Value) := (rk_at hk (e := ⟨31, .data⟩) (by simp) rfl rfl rfl)
          have f170 := gd e170
          exact rstep_value (wanted_yes rfl rfl rfl (show _ = _ from rk_at hk (e := ⟨17, .guard⟩) (by simp) rfl rfl rfl)) (exec_bs rfl (by simp only [List.map_toArray, List.map_cons, List.map_nil, Act.eval, e167, e168, e169, e170]) (run_bs4 cE cA cA cE w')) ⟨_, _, rfl, RdC.lit w' [cE, cA, cA, cE]⟩ (Chg.of_below (belA _ _) _)
        refine RSteps.cons (fun a w' hc hp hk => ?_) ?_
        · obtain ⟨A171, c171, e171, r171⟩ : ∃ A c, (a.tmps.getD 171 undef) = .slice A ([cE, cA, cA, cE] : List Cell).length c ∧ RdC w' A c [cE, cA, cA, cE] := (rk_at hk (e := ⟨32, .data⟩) (by simp) rfl rfl rfl)
          have HW := HB.out.trans ((chg_none hc).mono HB.out.size)
          exact ro_call (wanted_yes rfl rfl rfl (show _ = _ from rk_at hk (e := ⟨17, .guard⟩) (by simp) rfl rfl rfl)) rfl (by simp only [List.map_toArray, List.map_cons, List.map_nil, Act.eval, e171] <;> rfl) (fun _ _ => by kernel_rfl) ((l06hard_any A171 ([cE, cA, cA, cE] : List Cell).length c171 w').mono fun e w2 ⟨h1, h2⟩ => ⟨_, h1, ⟨A171, c171, rfl, (r171 : RdC w' A171 c171 [cE, cA, cA, cE]).bel h2⟩, Chg.of_below h2 _⟩)
        refine RSteps.cons (fun a w' hc hp hk => ?_) ?_
        · obtain ⟨A162, c162, e162, r162⟩ : ∃ A c, (a.tmps.getD 162 undef) = .agg #[.slice A ([cW, cell0, cW, cell0] : List Cell).length c, .bool false] ∧ RdC w' A c [cW, cell0, cW, cell0] := (rk_at hk (e := ⟨23, .data⟩) (by simp) rfl rfl rfl)
          obtain ⟨A166, c166, e166, r166⟩ : ∃ A c, (a.tmps.getD 166 undef) = .slice A ([cA, cA] : List Cell).length c ∧ RdC w' A c [cA, cA] := (rk_at hk (e := ⟨27, .data⟩) (by simp) rfl rfl rfl)
          obtain ⟨A172, c172, e172, r172⟩ : ∃ A c, (a.tmps.getD 172 undef) = .agg #[.slice A ([cE, cA, cA, cE] : List Cell).length c, .bool false] ∧ RdC w' A c [cE, cA, cA, cE] := (rk_at hk (e := ⟨33, .data⟩) (by simp) rfl rfl rfl)
          have HW := HB.out.trans ((chg_none hc).mono HB.out.size)
          exact ro_call (wanted_yes rfl rfl rfl (show _ = _ from rk_at hk (e := ⟨17, .guard⟩) (by simp) rfl rfl rfl)) rfl (by simp only [List.map_toArray, List.map_cons, List.map_nil, Act.eval, e162, e166, e172] <;> rfl) (fun _ _ => by kernel_rfl) (yes_of (l06puts_any A162 c162 [cW, cell0, cW, cell0] false 1 A166 ([cA, cA] : List Cell).length c166 (putOf 1 [cA, cA] [cW, cell0, cW, cell0] false).1 (putOf 1 [cA, cA] [cW, cell0, cW, cell0] false).2.1 (putOf 1 [cA, cA] [cW, cell0, cW, cell0] false).2.2 A172 c172 [cE, cA, cA, cE] false 0 w' (fun w3 hb3 => linePut_any A162 c162 [cW, cell0, cW, cell0] false 1 (by omega) A166 c166 [cA, cA] w3 ((HT.out.bel HW).bel hb3) (r162.bel hb3) (r166.bel hb3) (by decide) (by decide)) r172 (by decide +kernel) (by decide)) (by decide +kernel))
        refine RSteps.cons (fun a w' hc hp hk => ?_) ?_
        · have e173 : a.tmps.getD 173 undef = (.bool true : Value) := (rk_at hk (e := ⟨34, .data⟩) (by simp) rfl rfl rfl)
          have f173 := gd e173
          exact ro_pure (v := .bool false) (wanted_yes rfl rfl rfl (show _ = _ from rk_at hk (e := ⟨17, .guard⟩) (by simp) rfl rfl rfl)) (by simp [execOp, Act.eval, e173, f173, go_sem]) rfl (Chg.refl _ _)
        refine RSteps.cons (fun a w' hc hp hk => ?_) ?_
        · have e156 : a.tmps.getD 156 undef = (.bool false : Value) := (rk_at hk (e := ⟨17, .data⟩) (by simp) rfl rfl rfl)
          have f156 := gd e156
          have e174 : a.tmps.getD 174 undef = (.bool false : Value) := (rk_at hk (e := ⟨35, .data⟩) (by simp) rfl rfl rfl)
          have f174 := gd e174
          exact ro_pure (v := .bool false) (wanted_none rfl) (by simp [execOp, Act.eval, e156, f156, e174, f174, go_sem]) rfl (Chg.refl _ _)
        refine RSteps.cons (fun a w' hc hp hk => ?_) ?_
        · have e175 : a.tmps.getD 175 undef = (.bool false : Value) := (rk_at hk (e := ⟨36, .data⟩) (by simp) rfl rfl rfl)
          have f175 := gd e175
          exact ro_pure (v := .bool false) (wanted_none rfl) (by simp [execOp, Act.eval, e175, f175, go_sem]) rfl (Chg.refl _ _)
        refine RSteps.cons (fun a w' hc hp hk => ?_) ?_
        · have e1 : a.tmps.getD 1 undef = (.pointer (some ⟨b1, 0, none⟩) : Value) := (rk_same hk 1 (by kernel_rfl)).trans rfl
          have f1 := gd e1
          have hx := (K0.out.bel (chg_none hc)).h1.cellAt
          exact ro_pure (v := .agg (cv cA)) (wanted_yes rfl rfl rfl (show _ = _ from rk_at hk (e := ⟨37, .guard⟩) (by simp) rfl rfl rfl)) (by simp [execOp, Act.eval, e1, f1, go_sem, hx]) rfl (Chg.refl _ _)
        refine RSteps.cons (fun a w' hc hp hk => ?_) ?_
        · have e4 : a.tmps.getD 4 undef = (.pointer (some ⟨b4, 0, none⟩) : Value) := (rk_same hk 4 (by kernel_rfl)).trans rfl
          have f4 := gd e4
          have hx := (K0.out.bel (chg_none hc)).h4.cellAt
          exact ro_pure (v := .agg (cv cE)) (wanted_yes rfl rfl rfl (show _ = _ from rk_at hk (e := ⟨37, .guard⟩) (by simp) rfl rfl rfl)) (by simp [execOp, Act.eval, e4, f4, go_sem, hx]) rfl (Chg.refl _ _)
        refine RSteps.cons (fun a w' hc hp hk => ?_) ?_
        · have e177 : a.tmps.getD 177 undef = (.agg (cv cA) : Value) := (rk_at hk (e := ⟨38, .data⟩) (by simp) rfl rfl rfl)
          have f177 := gd e177
          have e178 : a.tmps.getD 178 undef = (.agg (cv cE) : Value) := (rk_at hk (e := ⟨39, .data⟩) (by simp) rfl rfl rfl)
          have f178 := gd e178
          exact rstep_value (wanted_yes rfl rfl rfl (show _ = _ from rk_at hk (e := ⟨37, .guard⟩) (by simp) rfl rfl rfl)) (exec_bs rfl (by simp only [List.map_toArray, List.map_cons, List.map_nil, Act.eval, e177, e178]) (run_bs2 cA cE w')) ⟨_, _, rfl, RdC.lit w' [cA, cE]⟩ (Chg.of_below (belA _ _) _)
        refine RSteps.cons (fun a w' hc hp hk => ?_) ?_
        · obtain ⟨A179, c179, e179, r179⟩ : ∃ A c, (a.tmps.getD 179 undef) = .slice A ([cA, cE] : List Cell).length c ∧ RdC w' A c [cA, cE] := (rk_at hk (e := ⟨40, .data⟩) (by simp) rfl rfl rfl)
          have HW := HB.out.trans ((chg_none hc).mono HB.out.size)
          exact ro_call (wanted_yes rfl rfl rfl (show _ = _ from rk_at hk (e := ⟨37, .guard⟩) (by simp) rfl rfl rfl)) rfl (by simp only [List.map_toArray, List.map_cons, List.map_nil, Act.eval, e179] <;> rfl) (fun _ _ => by kernel_rfl) ((l06hard_any A179 ([cA, cE] : List Cell).length c179 w').mono fun e w2 ⟨h1, h2⟩ => ⟨_, h1, ⟨A179, c179, rfl, (r179 : RdC w' A179 c179 [cA, cE]).bel h2⟩, Chg.of_below h2 _⟩)
        refine RSteps.cons (fun a w' hc hp hk => ?_) ?_
        · have e2 : a.tmps.getD 2 undef = (.pointer (some ⟨b2, 0, none⟩) : Value) := (rk_same hk 2 (by kernel_rfl)).trans rfl
          have f2 := gd e2
          have hx := (K0.out.bel (chg_none hc)).h2.cellAt
          exact ro_pure (v := .agg (cv cW)) (wanted_yes rfl rfl rfl (show _ = _ from rk_at hk (e := ⟨37, .guard⟩) (by simp) rfl rfl rfl)) (by simp [execOp, Act.eval, e2, f2, go_sem, hx]) rfl (Chg.refl _ _)
        refine RSteps.cons (fun a w' hc hp hk => ?_) ?_
        · have e3 : a.tmps.getD 3 undef = (.pointer (some ⟨b3, 0, none⟩) : Value) := (rk_same hk 3 (by kernel_rfl)).trans rfl
          have f3 := gd e3
          have hx := (K0.out.bel (chg_none hc)).h3.cellAt
          exact ro_pure (v := .agg (cv cell0)) (wanted_yes rfl rfl rfl (show _ = _ from rk_at hk (e := ⟨37, .guard⟩) (by simp) rfl rfl rfl)) (by simp [execOp, Act.eval, e3, f3, go_sem, hx]) rfl (Chg.refl _ _)
        refine RSteps.cons (fun a w' hc hp hk => ?_) ?_
        · have e181 : a.tmps.getD 181 undef = (.agg (cv cW) : Value) := (rk_at hk (e := ⟨42, .data⟩) (by simp) rfl rfl rfl)
          have f181 := gd e181
          have e182 : a.tmps.getD 182 undef = (.agg (cv cell0) : Value) := (rk_at hk (e := ⟨43, .data⟩) (by simp) rfl rfl rfl)
          have f182 := gd e182
          exact rstep_value (wanted_yes rfl rfl rfl (show _ = _ from rk_at hk (e := ⟨37, .guard⟩) (by simp) rfl rfl rfl)) (exec_bs rfl (by simp only [List.map_toArray, List.map_cons, List.map_nil, Act.eval, e181, e182]) (run_bs2 cW cell0 w')) ⟨_, _, rfl, RdC.lit w' [cW, cell0]⟩ (Chg.of_below (belA _ _) _)
        refine RSteps.cons (fun a w' hc hp hk => ?_) ?_
        · obtain ⟨A183, c183, e183, r183⟩ : ∃ A c, (a.tmps.getD 183 undef) = .slice A ([cW, cell0] : List Cell).length c ∧ RdC w' A c [cW, cell0] := (rk_at hk (e := ⟨44, .data⟩) (by simp) rfl rfl rfl)
          have HW := HB.out.trans ((chg_none hc).mono HB.out.size)
          exact ro_call (wanted_yes rfl rfl rfl (show _ = _ from rk_at hk (e := ⟨37, .guard⟩) (by simp) rfl rfl rfl)) rfl (by simp only [List.map_toArray, List.map_cons, List.map_nil, Act.eval, e183] <;> rfl) (fun _ _ => by kernel_rfl) ((l06list_any A183 _ c183 w').mono fun e w2 ⟨h1, h2⟩ => ⟨_, h1, ⟨A183, c183, rfl, h2 ▸ r183⟩, h2 ▸ Chg.refl _ _⟩)
        refine RSteps.cons (fun a w' hc hp hk => ?_) ?_
        · have e6 : a.tmps.getD 6 undef = (.pointer (some ⟨b6, 0, none⟩) : Value) := (rk_same hk 6 (by kernel_rfl)).trans rfl
          have f6 := gd e6
          have hx := ((K0.out.h6).bel (chg_none hc)).cell
          exact ro_pure (v := .agg #[.slice none 0 0, .bool false]) (wanted_yes rfl rfl rfl (show _ = _ from rk_at hk (e := ⟨37, .guard⟩) (by simp) rfl rfl rfl)) (by simp [execOp, Act.eval, e6, f6, go_sem, hx]) rfl (Chg.refl _ _)
        refine RSteps.cons (fun a w' hc hp hk => ?_) ?_
        · have e185 : a.tmps.getD 185 undef = (.agg #[.slice none 0 0, .bool false] : Value) := (rk_at hk (e := ⟨46, .data⟩) (by simp) rfl rfl rfl)
          have f185 := gd e185
          obtain ⟨A180, c180, e180, r180⟩ : ∃ A c, (a.tmps.getD 180 undef) = .agg #[.slice A ([cA, cE] : List Cell).length c, .bool false] ∧ RdC w' A c [cA, cE] := (rk_at hk (e := ⟨41, .data⟩) (by simp) rfl rfl rfl)
          obtain ⟨A184, c184, e184, r184⟩ : ∃ A c, (a.tmps.getD 184 undef) = .slice A ([cW, cell0] : List Cell).length c ∧ RdC w' A c [cW, cell0] := (rk_at hk (e := ⟨45, .data⟩) (by simp) rfl rfl rfl)
          have HW := HB.out.trans ((chg_none hc).mono HB.out.size)
          exact ro_call (wanted_yes rfl rfl rfl (show _ = _ from rk_at hk (e := ⟨37, .guard⟩) (by simp) rfl rfl rfl)) rfl (by simp only [List.map_toArray, List.map_cons, List.map_nil, Act.eval, e180, e184, e185] <;> rfl) (fun _ _ => by kernel_rfl) (yes_of (l06puts_any A180 c180 [cA, cE] false 1 A184 ([cW, cell0] : List Cell).length c184 (putOf 1 [cW, cell0] [cA, cE] false).1 (putOf 1 [cW, cell0] [cA, cE] false).2.1 (putOf 1 [cW, cell0] [cA, cE] false).2.2 (none) 0 [] false 3 w' (fun w3 hb3 => linePut_any A180 c180 [cA, cE] false 1 (by omega) A184 c184 [cW, cell0] w3 ((HT.out.bel HW).bel hb3) (r180.bel hb3) (r184.bel hb3) (by decide) (by decide)) (RdC.nil w') (by decide +kernel) (by decide)) (by decide +kernel))
        refine RSteps.cons (fun a w' hc hp hk => ?_) ?_
        · have e186 : a.tmps.getD 186 undef = (.bool true : Value) := (rk_at hk (e := ⟨47, .data⟩) (by simp) rfl rfl rfl)
          have f186 := gd e186
          exact ro_pure (v := .bool false) (wanted_yes rfl rfl rfl (show _ = _ from rk_at hk (e := ⟨37, .guard⟩) (by simp) rfl rfl rfl)) (by simp [execOp, Act.eval, e186, f186, go_sem]) rfl (Chg.refl _ _)
        refine RSteps.cons (fun a w' hc hp hk => ?_) ?_
        · have e176 : a.tmps.getD 176 undef = (.bool false : Value) := (rk_at hk (e := ⟨37, .data⟩) (by simp) rfl rfl rfl)
          have f176 := gd e176
          have e187 : a.tmps.getD 187 undef = (.bool false : Value) := (rk_at hk (e := ⟨48, .data⟩) (by simp) rfl rfl rfl)
          have f187 := gd e187
          exact ro_pure (v := .bool false) (wanted_none rfl) (by simp [execOp, Act.eval, e176, f176, e187, f187, go_sem]) rfl (Chg.refl _ _)
        refine RSteps.cons (fun a w' hc hp hk => ?_) ?_
        · have e188 : a.tmps.getD 188 undef = (.bool false : Value) := (rk_at hk (e := ⟨49, .data⟩) (by simp) rfl rfl rfl)
          have f188 := gd e188
          exact ro_pure (v := .bool false) (wanted_none rfl) (by simp [execOp, Act.eval, e188, f188, go_sem]) rfl (Chg.refl _ _)
        refine RSteps.cons (fun a w' hc hp hk => ?_) ?_
        · have e1 : a.tmps.getD 1 undef = (.pointer (some ⟨b1, 0, none⟩) : Value) := (rk_same hk 1 (by kernel_rfl)).trans rfl
          have f1 := gd e1
          have hx := (K0.out.bel (chg_none hc)).h1.cellAt
          exact ro_pure (v := .agg (cv cA)) (wanted_yes rfl rfl rfl (show _ = _ from rk_at hk (e := ⟨50, .guard⟩) (by simp) rfl rfl rfl)) (by simp [execOp, Act.eval, e1, f1, go_sem, hx]) rfl (Chg.refl _ _)
        refine RSteps.cons (fun a w' hc hp hk => ?_) ?_
        · have e4 : a.tmps.getD 4 undef = (.pointer (some ⟨b4, 0, none⟩) : Value) := (rk_same hk 4 (by kernel_rfl)).trans rfl
          have f4 := gd e4
          have hx := (K0.out.bel (chg_none hc)).h4.cellAt
          exact ro_pure (v := .agg (cv cE)) (wanted_yes rfl rfl rfl (show _ = _ from rk_at hk (e := ⟨50, .guard⟩) (by simp) rfl rfl rfl)) (by simp [execOp, Act.eval, e4, f4, go_sem, hx]) rfl (Chg.refl _ _)
        refine RSteps.cons (fun a w' hc hp hk => ?_) ?_
        · have e190 : a.tmps.getD 190 undef = (.agg (cv cA) : Value) := (rk_at hk (e := ⟨51, .data⟩) (by simp) rfl rfl rfl)
          have f190 := gd e190
          have e191 : a.tmps.getD 191 undef = (.agg (cv cE) : Value) := (rk_at hk (e := ⟨52, .data⟩) (by simp) rfl rfl rfl)
          have f191 := gd e191
          exact rstep_value (wanted_yes rfl rfl rfl (show _ = _ from rk_at hk (e := ⟨50, .guard⟩) (by simp) rfl rfl rfl)) (exec_bs rfl (by simp only [List.map_toArray, List.map_cons, List.map_nil, Act.eval, e190, e191]) (run_bs2 cA cE w')) ⟨_, _, rfl, RdC.lit w' [cA, cE]⟩ (Chg.of_below (belA _ _) _)
        refine RSteps.cons (fun a w' hc hp hk => ?_) ?_
        · obtain ⟨A192, c192, e192, r192⟩ : ∃ A c, (a.tmps.getD 192 undef) = .slice A ([cA, cE] : List Cell).length c ∧ RdC w' A c [cA, cE] := (rk_at hk (e := ⟨53, .data⟩) (by simp) rfl rfl rfl)
          have HW := HB.out.trans ((chg_none hc).mono HB.out.size)
          exact ro_call (wanted_yes rfl rfl rfl (show _ = _ from rk_at hk (e := ⟨50, .guard⟩) (by simp) rfl rfl rfl)) rfl (by simp only [List.map_toArray, List.map_cons, List.map_nil, Act.eval, e192] <;> rfl) (fun _ _ => by kernel_rfl) ((l06hard_any A192 ([cA, cE] : List Cell).length c192 w').mono fun e w2 ⟨h1, h2⟩ => ⟨_, h1, ⟨A192, c192, rfl, (r192 : RdC w' A192 c192 [cA, cE]).bel h2⟩, Chg.of_below h2 _⟩)
        refine RSteps.cons (fun a w' hc hp hk => ?_) ?_
        · have e1 : a.tmps.getD 1 undef = (.pointer (some ⟨b1, 0, none⟩) : Value) := (rk_same hk 1 (by kernel_rfl)).trans rfl
          have f1 := gd e1
          have hx := (K0.out.bel (chg_none hc)).h1.cellAt
          exact ro_pure (v := .agg (cv cA)) (wanted_yes rfl rfl rfl (show _ = _ from rk_at hk (e := ⟨50, .guard⟩) (by simp) rfl rfl rfl)) (by simp [execOp, Act.eval, e1, f1, go_sem, hx]) rfl (Chg.refl _ _)
        refine RSteps.cons (fun a w' hc hp hk => ?_) ?_
        · have e4 : a.tmps.getD 4 undef = (.pointer (some ⟨b4, 0, none⟩) : Value) := (rk_same hk 4 (by kernel_rfl)).trans rfl
          have f4 := gd e4
          have hx := (K0.out.bel (chg_none hc)).h4.cellAt
          exact ro_pure (v := .agg (cv cE)) (wanted_yes rfl rfl rfl (show _ = _ from rk_at hk (e := ⟨50, .guard⟩) (by simp) rfl rfl rfl)) (by simp [execOp, Act.eval, e4, f4, go_sem, hx]) rfl (Chg.refl _ _)
        refine RSteps.cons (fun a w' hc hp hk => ?_) ?_
        · have e194 : a.tmps.getD 194 undef = (.agg (cv cA) : Value) := (rk_at hk (e := ⟨55, .data⟩) (by simp) rfl rfl rfl)
          have f194 := gd e194
          have e195 : a.tmps.getD 195 undef = (.agg (cv cE) : Value) := (rk_at hk (e := ⟨56, .data⟩) (by simp) rfl rfl rfl)
          have f195 := gd e195
          exact rstep_value (wanted_yes rfl rfl rfl (show _ = _ from rk_at hk (e := ⟨50, .guard⟩) (by simp) rfl rfl rfl)) (exec_bs rfl (by simp only [List.map_toArray, List.map_cons, List.map_nil, Act.eval, e194, e195]) (run_bs2 cA cE w')) ⟨_, _, rfl, RdC.lit w' [cA, cE]⟩ (Chg.of_below (belA _ _) _)
        refine RSteps.cons (fun a w' hc hp hk => ?_) ?_
        · obtain ⟨A196, c196, e196, r196⟩ : ∃ A c, (a.tmps.getD 196 undef) = .slice A ([cA, cE] : List Cell).length c ∧ RdC w' A c [cA, cE] := (rk_at hk (e := ⟨57, .data⟩) (by simp) rfl rfl rfl)
          have HW := HB.out.trans ((chg_none hc).mono HB.out.size)
          exact ro_call (wanted_yes rfl rfl rfl (show _ = _ from rk_at hk (e := ⟨50, .guard⟩) (by simp) rfl rfl rfl)) rfl (by simp only [List.map_toArray, List.map_cons, List.map_nil, Act.eval, e196] <;> rfl) (fun _ _ => by kernel_rfl) ((l06hard_any A196 ([cA, cE] : List Cell).length c196 w').mono fun e w2 ⟨h1, h2⟩ => ⟨_, h1, ⟨A196, c196, rfl, (r196 : RdC w' A196 c196 [cA, cE]).bel h2⟩, Chg.of_below h2 _⟩)
        refine RSteps.cons (fun a w' hc hp hk => ?_) ?_
        · obtain ⟨A193, c193, e193, r193⟩ : ∃ A c, (a.tmps.getD 193 undef) = .agg #[.slice A ([cA, cE] : List Cell).length c, .bool false] ∧ RdC w' A c [cA, cE] := (rk_at hk (e := ⟨54, .data⟩) (by simp) rfl rfl rfl)
          obtain ⟨A197, c197, e197, r197⟩ : ∃ A c, (a.tmps.getD 197 undef) = .agg #[.slice A ([cA, cE] : List Cell).length c, .bool false] ∧ RdC w' A c [cA, cE] := (rk_at hk (e := ⟨58, .data⟩) (by simp) rfl rfl rfl)
          have HW := HB.out.trans ((chg_none hc).mono HB.out.size)
          exact ro_call (wanted_yes rfl rfl rfl (show _ = _ from rk_at hk (e := ⟨50, .guard⟩) (by simp) rfl rfl rfl)) rfl (by simp only [List.map_toArray, List.map_cons, List.map_nil, Act.eval, e193, e197] <;> rfl) (fun _ _ => by kernel_rfl) (yes_of (l06puts_any A193 c193 [cA, cE] false 2 none ([] : List Cell).length 0 (putOf 2 [] [cA, cE] false).1 (putOf 2 [] [cA, cE] false).2.1 (putOf 2 [] [cA, cE] false).2.2 A197 c197 [cA, cE] false 0 w' (fun w3 hb3 => linePut_any A193 c193 [cA, cE] false 2 (by omega) none 0 [] w3 ((HT.out.bel HW).bel hb3) (r193.bel hb3) ((RdC.nil w').bel hb3) (by decide) (by decide)) r197 (by decide +kernel) (by decide)) (by decide +kernel))
        refine RSteps.cons (fun a w' hc hp hk => ?_) ?_
        · have e198 : a.tmps.getD 198 undef = (.bool true : Value) := (rk_at hk (e := ⟨59, .data⟩) (by simp) rfl rfl rfl)
          have f198 := gd e198
          exact ro_pure (v := .bool false) (wanted_yes rfl rfl rfl (show _ = _ from rk_at hk (e := ⟨50, .guard⟩) (by simp) rfl rfl rfl)) (by simp [execOp, Act.eval, e198, f198, go_sem]) rfl (Chg.refl _ _)
        refine RSteps.cons (fun a w' hc hp hk => ?_) ?_
        · have e189 : a.tmps.getD 189 undef = (.bool false : Value) := (rk_at hk (e := ⟨50, .data⟩) (by simp) rfl rfl rfl)
          have f189 := gd e189
          have e199 : a.tmps.getD 199 undef = (.bool false : Value) := (rk_at hk (e := ⟨60, .data⟩) (by simp) rfl rfl rfl)
          have f199 := gd e199
          exact ro_pure (v := .bool false) (wanted_none rfl) (by simp [execOp, Act.eval, e189, f189, e199, f199, go_sem]) rfl (Chg.refl _ _)
        refine RSteps.cons (fun a w' hc hp hk => ?_) ?_
        · have e200 : a.tmps.getD 200 undef = (.bool false : Value) := (rk_at hk (e := ⟨61, .data⟩) (by simp) rfl rfl rfl)
          have f200 := gd e200
          exact ro_pure (v := .bool false) (wanted_none rfl) (by simp [execOp, Act.eval, e200, f200, go_sem]) rfl (Chg.refl _ _)
        refine RSteps.cons (fun a w' hc hp hk => ?_) ?_
        · have e1 : a.tmps.getD 1 undef = (.pointer (some ⟨b1, 0, none⟩) : Value) := (rk_same hk 1 (by kernel_rfl)).trans rfl
          have f1 := gd e1
          have hx := (K0.out.bel (chg_none hc)).h1.cellAt
          exact ro_pure (v := .agg (cv cA)) (wanted_yes rfl rfl rfl (show _ = _ from rk_at hk (e := ⟨62, .guard⟩) (by simp) rfl rfl rfl)) (by simp [execOp, Act.eval, e1, f1, go_sem, hx]) rfl (Chg.refl _ _)
        refine RSteps.cons (fun a w' hc hp hk => ?_) ?_
        · have e4 : a.tmps.getD 4 undef = (.pointer (some ⟨b4, 0, none⟩) : Value) := (rk_same hk 4 (by kernel_rfl)).trans rfl
          have f4 := gd e4
          have hx := (K0.out.bel (chg_none hc)).h4.cellAt
          exact ro_pure (v := .agg (cv cE)) (wanted_yes rfl rfl rfl (show _ = _ from rk_at hk (e := ⟨62, .guard⟩) (by simp) rfl rfl rfl)) (by simp [execOp, Act.eval, e4, f4, go_sem, hx]) rfl (Chg.refl _ _)
        refine RSteps.cons (fun a w' hc hp hk => ?_) ?_
        · have e202 : a.tmps.getD 202 undef = (.agg (cv cA) : Value) := (rk_at hk (e := ⟨63, .data⟩) (by simp) rfl rfl rfl)
          have f202 := gd e202
          have e203 : a.tmps.getD 203 undef = (.agg (cv cE) : Value) := (rk_at hk (e := ⟨64, .data⟩) (by simp) rfl rfl rfl)
          have f203 := gd e203
          exact rstep_value (wanted_yes rfl rfl rfl (show _ = _ from rk_at hk (e := ⟨62, .guard⟩) (by simp) rfl rfl rfl)) (exec_bs rfl (by simp only [List.map_toArray, List.map_cons, List.map_nil, Act.eval, e202, e203]) (run_bs2 cA cE w')) ⟨_, _, rfl, RdC.lit w' [cA, cE]⟩ (Chg.of_below (belA _ _) _)
        refine RSteps.cons (fun a w' hc hp hk => ?_) ?_
        · obtain ⟨A204, c204, e204, r204⟩ : ∃ A c, (a.tmps.getD 204 undef) = .slice A ([cA, cE] : List Cell).length c ∧ RdC w' A c [cA, cE] := (rk_at hk (e := ⟨65, .data⟩) (by simp) rfl rfl rfl)
          have HW := HB.out.trans ((chg_none hc).mono HB.out.size)
          exact ro_call (wanted_yes rfl rfl rfl (show _ = _ from rk_at hk (e := ⟨62, .guard⟩) (by simp) rfl rfl rfl)) rfl (by simp only [List.map_toArray, List.map_cons, List.map_nil, Act.eval, e204] <;> rfl) (fun _ _ => by kernel_rfl) ((l06hard_any A204 ([cA, cE] : List Cell).length c204 w').mono fun e w2 ⟨h1, h2⟩ => ⟨_, h1, ⟨A204, c204, rfl, (r204 : RdC w' A204 c204 [cA, cE]).bel h2⟩, Chg.of_below h2 _⟩)
        refine RSteps.cons (fun a w' hc hp hk => ?_) ?_
        · have e3 : a.tmps.getD 3 undef = (.pointer (some ⟨b3, 0, none⟩) : Value) := (rk_same hk 3 (by kernel_rfl)).trans rfl
          have f3 := gd e3
          have hx := (K0.out.bel (chg_none hc)).h3.cellAt
          exact ro_pure (v := .agg (cv cell0)) (wanted_yes rfl rfl rfl (show _ = _ from rk_at hk (e := ⟨62, .guard⟩) (by simp) rfl rfl rfl)) (by simp [execOp, Act.eval, e3, f3, go_sem, hx]) rfl (Chg.refl _ _)
        refine RSteps.cons (fun a w' hc hp hk => ?_) ?_
        · have e206 : a.tmps.getD 206 undef = (.agg (cv cell0) : Value) := (rk_at hk (e := ⟨67, .data⟩) (by simp) rfl rfl rfl)
          have f206 := gd e206
          exact rstep_value (wanted_yes rfl rfl rfl (show _ = _ from rk_at hk (e := ⟨62, .guard⟩) (by simp) rfl rfl rfl)) (exec_bs rfl (by simp only [List.map_toArray, List.map_cons, List.map_nil, Act.eval, e206]) (run_bs1 cell0 w')) ⟨_, _, rfl, RdC.lit w' [cell0]⟩ (Chg.of_below (belA _ _) _)
        refine RSteps.cons (fun a w' hc hp hk => ?_) ?_
        · obtain ⟨A207, c207, e207, r207⟩ : ∃ A c, (a.tmps.getD 207 undef) = .slice A ([cell0] : List Cell).length c ∧ RdC w' A c [cell0] := (rk_at hk (e := ⟨68, .data⟩) (by simp) rfl rfl rfl)
          have HW := HB.out.trans ((chg_none hc).mono HB.out.size)
          exact ro_call (wanted_yes rfl rfl rfl (show _ = _ from rk_at hk (e := ⟨62, .guard⟩) (by simp) rfl rfl rfl)) rfl (by simp only [List.map_toArray, List.map_cons, List.map_nil, Act.eval, e207] <;> rfl) (fun _ _ => by kernel_rfl) ((l06list_any A207 _ c207 w').mono fun e w2 ⟨h1, h2⟩ => ⟨_, h1, ⟨A207, c207, rfl, h2 ▸ r207⟩, h2 ▸ Chg.refl _ _⟩)
        refine RSteps.cons (fun a w' hc hp hk => ?_) ?_
        · have e6 : a.tmps.getD 6 undef = (.pointer (some ⟨b6, 0, none⟩) : Value) := (rk_same hk 6 (by kernel_rfl)).trans rfl
          have f6 := gd e6
          have hx := ((K0.out.h6).bel (chg_none hc)).cell
          exact ro_pure (v := .agg #[.slice none 0 0, .bool false]) (wanted_yes rfl rfl rfl (show _ = _ from rk_at hk (e := ⟨62, .guard⟩) (by simp) rfl rfl rfl)) (by simp [execOp, Act.eval, e6, f6, go_sem, hx]) rfl (Chg.refl _ _)
        refine RSteps.cons (fun a w' hc hp hk => ?_) ?_
        · have e209 : a.tmps.getD 209 undef = (.agg #[.slice none 0 0, .bool false] : Value) := (rk_at hk (e := ⟨70, .data⟩) (by simp) rfl rfl rfl)
          have f209 := gd e209
          obtain ⟨A205, c205, e205, r205⟩ : ∃ A c, (a.tmps.getD 205 undef) = .agg #[.slice A ([cA, cE] : List Cell).length c, .bool false] ∧ RdC w' A c [cA, cE] := (rk_at hk (e := ⟨66, .data⟩) (by simp) rfl rfl rfl)
          obtain ⟨A208, c208, e208, r208⟩ : ∃ A c, (a.tmps.getD 208 undef) = .slice A ([cell0] : List Cell).length c ∧ RdC w' A c [cell0] := (rk_at hk (e := ⟨69, .data⟩) (by simp) rfl rfl rfl)
          have HW := HB.out.trans ((chg_none hc).mono HB.out.size)
          exact ro_call (wanted_yes rfl rfl rfl (show _ = _ from rk_at hk (e := ⟨62, .guard⟩) (by simp) rfl rfl rfl)) rfl (by simp only [List.map_toArray, List.map_cons, List.map_nil, Act.eval, e205, e208, e209] <;> rfl) (fun _ _ => by kernel_rfl) (yes_of (l06puts_any A205 c205 [cA, cE] false 0 A208 ([cell0] : List Cell).length c208 (putOf 0 [cell0] [cA, cE] false).1 (putOf 0 [cell0] [cA, cE] false).2.1 (putOf 0 [cell0] [cA, cE] false).2.2 (none) 0 [] false 2 w' (fun w3 hb3 => linePut_any A205 c205 [cA, cE] false 0 (by omega) A208 c208 [cell0] w3 ((HT.out.bel HW).bel hb3) (r205.bel hb3) (r208.bel hb3) (by decide) (by decide)) (RdC.nil w') (by decide +kernel) (by decide)) (by decide +kernel))
        refine RSteps.cons (fun a w' hc hp hk => ?_) ?_
        · have e210 : a.tmps.getD 210 undef = (.bool true : Value) := (rk_at hk (e := ⟨71, .data⟩) (by simp) rfl rfl rfl)
          have f210 := gd e210
          exact ro_pure (v := .bool false) (wanted_yes rfl rfl rfl (show _ = _ from rk_at hk (e := ⟨62, .guard⟩) (by simp) rfl rfl rfl)) (by simp [execOp, Act.eval, e210, f210, go_sem]) rfl (Chg.refl _ _)
        refine RSteps.cons (fun a w' hc hp hk => ?_) ?_
        · have e201 : a.tmps.getD 201 undef = (.bool false : Value) := (rk_at hk (e := ⟨62, .data⟩) (by simp) rfl rfl rfl)
          have f201 := gd e201
          have e211 : a.tmps.getD 211 undef = (.bool false : Value) := (rk_at hk (e := ⟨72, .data⟩) (by simp) rfl rfl rfl)
          have f211 := gd e211
          exact ro_pure (v := .bool false) (wanted_none rfl) (by simp [execOp, Act.eval, e201, f201, e211, f211, go_sem]) rfl (Chg.refl _ _)
        exact RSteps.nil
      · intro vs wz hc hv
        have q : vs 73 = .bool false := hv 73 (by decide) rfl
        have HC := Lib.hid (chg_none hc)
        clear hc hv
        simp only [putL, Act.put, Nat.zero_add, Nat.reduceAdd, q, List.setIfInBounds_toArray, List.set_cons_succ, List.set_cons_zero]
        clear q
        have K0 := Lib.hid (K0.out.bel HC.out)
        have K7 := Lib.hid (K7.out.bel HC.out)
        have R7 := Lib.hid (R7.out.bel HC.out)
        have HB := Lib.hid (HB.out.trans (HC.out.mono HB.out.size))
        clear HC
        obtain ⟨⟨f1, l1⟩, -, -⟩ := K0.out.facts3
        go_wp2_with (refine wpList_bs1 rfl _ rfl _ rfl ?_)
        refine (l06hard_any _ _ _ _).mono ?_
        rintro e w8 ⟨rfl, hb⟩
        have hb1 := bel1 hb
        have K1 := Lib.hid (K0.out.bel hb1)
        have K71 := Lib.hid (K7.out.bel hb1)
        have R71 := Lib.hid (R7.out.bel hb1)
        have R1 := Lib.hid ((RdC.lit wz [cA]).bel hb)
        have HB1 := Lib.hid (HB.out.trans (hb1.mono HB.out.size))
        clear hb hb1 f1 l1 K0 HB K7 R7
        go_upto_region 14 with (fail)
        have K8 := Lib.hid (Blk.new w8 59 #[.slice (some ⟨wz.heap.size, 0, none⟩) 1 1, .bool true])
        have K0 := Lib.hid (K1.out.bel (belA w8 (.cells #[.slice (some ⟨wz.heap.size, 0, none⟩) 1 1, .bool true] 59)))
        have R8 := Lib.hid (R1.out.bel (belA w8 (.cells #[.slice (some ⟨wz.heap.size, 0, none⟩) 1 1, .bool true] 59)))
        have HB := Lib.hid (HB1.out.trans ((belA w8 (.cells #[.slice (some ⟨wz.heap.size, 0, none⟩) 1 1, .bool true] 59)).mono HB1.out.size))
        generalize w8.alloc (.cells #[.slice (some ⟨wz.heap.size, 0, none⟩) 1 1, .bool true] 59) = W8 at K8 K0 R8 HB ⊢
        generalize w8.heap.size = b8 at K8 ⊢
        generalize wz.heap.size = g8 at K8 R8 ⊢
        clear K1 R1 HB1 K71 R71
        refine wp_region_multi (by kernel_rfl) (by kernel_rfl) (by kernel_rfl) (fun i => none) (fun i k h => ?_) (noBlk) [Sr.val (.agg (cv cA)), Sr.cells [cA], Sr.rline [cA] false, Sr.val (.agg #[.slice (some ⟨g8, 0, none⟩) 1 1, .bool true]), Sr.val (.bool false), Sr.val (.bool true), Sr.val (.bool true), Sr.val (.agg (cv cA)), Sr.cells [cA], Sr.rline [cA] false, Sr.val (.agg (cv cA)), Sr.val (.agg (cv cE)), Sr.cells [cA, cE], Sr.rline [cA, cE] false, Sr.val (.bool false), Sr.val (.bool true), Sr.val (.bool true), Sr.val (.bool true), Sr.val (.agg (cv cA)), Sr.val (.agg (cv cW)), Sr.val (.agg (cv cell0)), Sr.cells [cA, cW, cell0], Sr.rline [cA, cW, cell0] false, Sr.rline [cA, cW, cell0] false, Sr.val (.agg (cv cA)), Sr.val (.agg (cv cW)), Sr.val (.agg (cv cell0)), Sr.cells [cA, cW, cell0], Sr.rline [cA, cW, cell0] false, Sr.val (.bool true), Sr.val (.bool true), Sr.val (.bool true)] [] [] (fun p hp => by cases hp) (fun p hp => by cases hp) (fun p hp => by cases hp) (fun p hp => by cases hp) ?_ ?_ ?_
        · cases h
        · intro q hq
          cases hq
        · refine RSteps.cons (fun a w' hc hp hk => ?_) ?_
          · have e1 : a.tmps.getD 1 undef = (.pointer (some ⟨b1, 0, none⟩) : Value) := (rk_same hk 1 (by kernel_rfl)).trans rfl
            have f1 := gd e1
            have hx := (K0.out.bel (chg_none hc)).h1.cellAt
            exact ro_pure (v := .agg (cv cA)) (wanted_none rfl) (by simp [execOp, Act.eval, e1, f1, go_sem, hx]) rfl (Chg.refl _ _)
          refine RSteps.cons (fun a w' hc hp hk => ?_) ?_
          · have e217 : a.tmps.getD 217 undef = (.agg (cv cA) : Value) := (rk_at hk (e := ⟨0, .data⟩) (by simp) rfl rfl rfl)
            have f217 := gd e217
            exact rstep_value (wanted_none rfl) (exec_bs rfl (by simp only [List.map_toArray, List.map_cons, List.map_nil, Act.eval, e217]) (run_bs1 cA w')) ⟨_, _, rfl, RdC.lit w' [cA]⟩ (Chg.of_below (belA _ _) _)
          refine RSteps.cons (fun a w' hc hp hk => ?_) ?_
          · obtain ⟨A218, c218, e218, r218⟩ : ∃ A c, (a.tmps.getD 218 undef) = .slice A ([cA] : List Cell).length c ∧ RdC w' A c [cA] := (rk_at hk (e := ⟨1, .data⟩) (by simp) rfl rfl rfl)
            have HW := HB.out.trans ((chg_none hc).mono HB.out.size)
            exact ro_call (wanted_none rfl) rfl (by simp only [List.map_toArray, List.map_cons, List.map_nil, Act.eval, e218] <;> rfl) (fun _ _ => by kernel_rfl) ((l06hard_any A218 ([cA] : List Cell).length c218 w').mono fun e w2 ⟨h1, h2⟩ => ⟨_, h1, ⟨A218, c218, rfl, (r218 : RdC w' A218 c218 [cA]).bel h2⟩, Chg.of_below h2 _⟩)
          refine RSteps.cons (fun a w' hc hp hk => ?_) ?_
          · have e8 : a.tmps.getD 8 undef = (.pointer (some ⟨b8, 0, none⟩) : Value) := (rk_same hk 8 (by kernel_rfl)).trans rfl
            have f8 := gd e8
            have hx := (K8.out.bel (chg_none hc)).cell
            exact ro_pure (v := .agg #[.slice (some ⟨g8, 0, none⟩) 1 1, .bool true]) (wanted_none rfl) (by simp [execOp, Act.eval, e8, f8, go_sem, hx]) rfl (Chg.refl _ _)
          refine RSteps.cons (fun a w' hc hp hk => ?_) ?_
          · have e220 : a.tmps.getD 220 undef = (.agg #[.slice (some ⟨g8, 0, none⟩) 1 1, .bool true] : Value) := (rk_at hk (e := ⟨3, .data⟩) (by simp) rfl rfl rfl)
            have f220 := gd e220
            obtain ⟨A219, c219, e219, r219⟩ : ∃ A c, (a.tmps.getD 219 undef) = .agg #[.slice A ([cA] : List Cell).length c, .bool false] ∧ RdC w' A c [cA] := (rk_at hk (e := ⟨2, .data⟩) (by simp) rfl rfl rfl)
            have HW := HB.out.trans ((chg_none hc).mono HB.out.size)
            exact ro_call (wanted_none rfl) rfl (by simp only [List.map_toArray, List.map_cons, List.map_nil, Act.eval, e219, e220] <;> rfl) (fun _ _ => by kernel_rfl) (no_of (lineEqual_any A219 ((some ⟨g8, 0, none⟩)) c219 1 [cA] [cA] false true w' r219 (R8.out.bel (chg_none hc)) (by decide) (by decide)) (by decide +kernel))
          refine RSteps.cons (fun a w' hc hp hk => ?_) ?_
          · have e221 : a.tmps.getD 221 undef = (.bool false : Value) := (rk_at hk (e := ⟨4, .data⟩) (by simp) rfl rfl rfl)
            have f221 := gd e221
            exact ro_pure (v := .bool true) (wanted_none rfl) (by simp [execOp, Act.eval, e221, f221, go_sem]) rfl (Chg.refl _ _)
          refine RSteps.cons (fun a w' hc hp hk => ?_) ?_
          · have e222 : a.tmps.getD 222 undef = (.bool true : Value) := (rk_at hk (e := ⟨5, .data⟩) (by simp) rfl rfl rfl)
            have f222 := gd e222
            exact ro_pure (v := .bool true) (wanted_none rfl) (by simp [execOp, Act.eval, e222, f222, go_sem]) rfl (Chg.refl _ _)
          refine RSteps.cons (fun a w' hc hp hk => ?_) ?_
          · have e1 : a.tmps.getD 1 undef = (.pointer (some ⟨b1, 0, none⟩) : Value) := (rk_same hk 1 (by kernel_rfl)).trans rfl
            have f1 := gd e1
            have hx := (K0.out.bel (chg_none hc)).h1.cellAt
            exact ro_pure (v := .agg (cv cA)) (wanted_yes rfl rfl rfl (show _ = _ from rk_at hk (e := ⟨6, .guard⟩) (by simp) rfl rfl rfl)) (by simp [execOp, Act.eval, e1, f1, go_sem, hx]) rfl (Chg.refl _ _)
          refine RSteps.cons (fun a w' hc hp hk => ?_) ?_
          · have e224 : a.tmps.getD 224 undef = (.agg (cv cA) : Value) := (rk_at hk (e := ⟨7, .data⟩) (by simp) rfl rfl rfl)
            have f224 := gd e224
            exact rstep_value (wanted_yes rfl rfl rfl (show _ = _ from rk_at hk (e := ⟨6, .guard⟩) (by simp) rfl rfl rfl)) (exec_bs rfl (by simp only [List.map_toArray, List.map_cons, List.map_nil, Act.eval, e224]) (run_bs1 cA w')) ⟨_, _, rfl, RdC.lit w' [cA]⟩ (Chg.of_below (belA _ _) _)
          refine RSteps.cons (fun a w' hc hp hk => ?_) ?_
          · obtain ⟨A225, c225, e225, r225⟩ : ∃ A c, (a.tmps.getD 225 undef) = .slice A ([cA] : List Cell).length c ∧ RdC w' A c [cA] := (rk_at hk (e := ⟨8, .data⟩) (by simp) rfl rfl rfl)
            have HW := HB.out.trans ((chg_none hc).mono HB.out.size)
            exact ro_call (wanted_yes rfl rfl rfl (show _ = _ from rk_at hk (e := ⟨6, .guard⟩) (by simp) rfl rfl rfl)) rfl (by simp only [List.map_toArray, List.map_cons, List.map_nil, Act.eval, e225] <;> rfl) (fun _ _ => by kernel_rfl) ((l06hard_any A225 ([cA] : List Cell).length c225 w').mono fun e w2 ⟨h1, h2⟩ => ⟨_, h1, ⟨A225, c225, rfl, (r225 : RdC w' A225 c225 [cA]).bel h2⟩, Chg.of_below h2 _⟩)
          refine RSteps.cons (fun a w' hc hp hk => ?_) ?_
          · have e1 : a.tmps.getD 1 undef = (.pointer (some ⟨b1, 0, none⟩) : Value) := (rk_same hk 1 (by kernel_rfl)).trans rfl
            have f1 := gd e1
            have hx := (K0.out.bel (chg_none hc)).h1.cellAt
            exact ro_pure (v := .agg (cv cA)) (wanted_yes rfl rfl rfl (show _ = _ from rk_at hk (e := ⟨6, .guard⟩) (by simp) rfl rfl rfl)) (by simp [execOp, Act.eval, e1, f1, go_sem, hx]) rfl (Chg.refl _ _)
          refine RSteps.cons (fun a w' hc hp hk => ?_) ?_
          · have e4 : a.tmps.getD 4 undef = (.pointer (some ⟨b4, 0, none⟩) : Value) := (rk_same hk 4 (by kernel_rfl)).trans rfl
            have f4 := gd e4
            have hx := (K0.out.bel (chg_none hc)).h4.cellAt
            exact ro_pure (v := .agg (cv cE)) (wanted_yes rfl rfl rfl (show _ = _ from rk_at hk (e := ⟨6, .guard⟩) (by simp) rfl rfl rfl)) (by simp [execOp, Act.eval, e4, f4, go_sem, hx]) rfl (Chg.refl _ _)
          refine RSteps.cons (fun a w' hc hp hk => ?_) ?_
          · have e227 : a.tmps.getD 227 undef = (.agg (cv cA) : Value) := (rk_at hk (e := ⟨10, .data⟩) (by simp) rfl rfl rfl)
            have f227 := gd e227
            have e228 : a.tmps.getD 228 undef = (.agg (cv cE) : Value) := (rk_at hk (e := ⟨11, .data⟩) (by simp) rfl rfl rfl)
            have f228 := gd e228
            exact rstep_value (wanted_yes rfl rfl rfl (show _ = _ from rk_at hk (e := ⟨6, .guard⟩) (by simp) rfl rfl rfl)) (exec_bs rfl (by simp only [List.map_toArray, List.map_cons, List.map_nil, Act.eval, e227, e228]) (run_bs2 cA cE w')) ⟨_, _, rfl, RdC.lit w' [cA, cE]⟩ (Chg.of_below (belA _ _) _)
          refine RSteps.cons (fun a w' hc hp hk => ?_) ?_
          · obtain ⟨A229, c229, e229, r229⟩ : ∃ A c, (a.tmps.getD 229 undef) = .slice A ([cA, cE] : List Cell).length c ∧ RdC w' A c [cA, cE] := (rk_at hk (e := ⟨12, .data⟩) (by simp) rfl rfl rfl)
            have HW := HB.out.trans ((chg_none hc).mono HB.out.size)
            exact ro_call (wanted_yes rfl rfl rfl (show _ = _ from rk_at hk (e := ⟨6, .guard⟩) (by simp) rfl rfl rfl)) rfl (by simp only [List.map_toArray, List.map_cons, List.map_nil, Act.eval, e229] <;> rfl) (fun _ _ => by kernel_rfl) ((l06hard_any A229 ([cA, cE] : List Cell).length c229 w').mono fun e w2 ⟨h1, h2⟩ => ⟨_, h1, ⟨A229, c229, rfl, (r229 : RdC w' A229 c229 [cA, cE]).bel h2⟩, Chg.of_below h2 _⟩)
          refine RSteps.cons (fun a w' hc hp hk => ?_) ?_
          · obtain ⟨A226, c226, e226, r226⟩ : ∃ A c, (a.tmps.getD 226 undef) = .agg #[.slice A ([cA] : List Cell).length c, .bool false] ∧ RdC w' A c [cA] := (rk_at hk (e := ⟨9, .data⟩) (by simp) rfl rfl rfl)
            obtain ⟨A230, c230, e230, r230⟩ : ∃ A c, (a.tmps.getD 230 undef) = .agg #[.slice A ([cA, cE] : List Cell).length c, .bool false] ∧ RdC w' A c [cA, cE] := (rk_at hk (e := ⟨13, .data⟩) (by simp) rfl rfl rfl)
            have HW := HB.out.trans ((chg_none hc).mono HB.out.size)
            exact ro_call (wanted_yes rfl rfl rfl (show _ = _ from rk_at hk (e := ⟨6, .guard⟩) (by simp) rfl rfl rfl)) rfl (by simp only [List.map_toArray, List.map_cons, List.map_nil, Act.eval, e226, e230] <;> rfl) (fun _ _ => by kernel_rfl) (no_of (lineEqual_any A226 A230 c226 c230 [cA] [cA, cE] false false w' r226 r230 (by decide) (by decide)) (by decide +kernel))
          refine RSteps.cons (fun a w' hc hp hk => ?_) ?_
          · have e231 : a.tmps.getD 231 undef = (.bool false : Value) := (rk_at hk (e := ⟨14, .data⟩) (by simp) rfl rfl rfl)
            have f231 := gd e231
            exact ro_pure (v := .bool true) (wanted_yes rfl rfl rfl (show _ = _ from rk_at hk (e := ⟨6, .guard⟩) (by simp) rfl rfl rfl)) (by simp [execOp, Act.eval, e231, f231, go_sem]) rfl (Chg.refl _ _)
          refine RSteps.cons (fun a w' hc hp hk => ?_) ?_
          · have e223 : a.tmps.getD 223 undef = (.bool true : Value) := (rk_at hk (e := ⟨6, .data⟩) (by simp) rfl rfl rfl)
            have f223 := gd e223
            have e232 : a.tmps.getD 232 undef = (.bool true : Value) := (rk_at hk (e := ⟨15, .data⟩) (by simp) rfl rfl rfl)
            have f232 := gd e232
            exact ro_pure (v := .bool true) (wanted_none rfl) (by simp [execOp, Act.eval, e223, f223, e232, f232, go_sem]) rfl (Chg.refl _ _)
          refine RSteps.cons (fun a w' hc hp hk => ?_) ?_
          · have e233 : a.tmps.getD 233 undef = (.bool true : Value) := (rk_at hk (e := ⟨16, .data⟩) (by simp) rfl rfl rfl)
            have f233 := gd e233
            exact ro_pure (v := .bool true) (wanted_none rfl) (by simp [execOp, Act.eval, e233, f233, go_sem]) rfl (Chg.refl _ _)
          refine RSteps.cons (fun a w' hc hp hk => ?_) ?_
          · have e1 : a.tmps.getD 1 undef = (.pointer (some ⟨b1, 0, none⟩) : Value) := (rk_same hk 1 (by kernel_rfl)).trans rfl
            have f1 := gd e1
            have hx := (K0.out.bel (chg_none hc)).h1.cellAt
            exact ro_pure (v := .agg (cv cA)) (wanted_yes rfl rfl rfl (show _ = _ from rk_at hk (e := ⟨17, .guard⟩) (by simp) rfl rfl rfl)) (by simp [execOp, Act.eval, e1, f1, go_sem, hx]) rfl (Chg.refl _ _)
          refine RSteps.cons (fun a w' hc hp hk => ?_) ?_
          · have e2 : a.tmps.getD 2 undef = (.pointer (some ⟨b2, 0, none⟩) : Value) := (rk_same hk 2 (by kernel_rfl)).trans rfl
            have f2 := gd e2
            have hx := (K0.out.bel (chg_none hc)).h2.cellAt
            exact ro_pure (v := .agg (cv cW)) (wanted_yes rfl rfl rfl (show _ = _ from rk_at hk (e := ⟨17, .guard⟩) (by simp) rfl rfl rfl)) (by simp [execOp, Act.eval, e2, f2, go_sem, hx]) rfl (Chg.refl _ _)
          refine RSteps.cons (fun a w' hc hp hk => ?_) ?_
          · have e3 : a.tmps.getD 3 undef = (.pointer (some ⟨b3, 0, none⟩) : Value) := (rk_same hk 3 (by kernel_rfl)).trans rfl
            have f3 := gd e3
            have hx := (K0.out.bel (chg_none hc)).h3.cellAt
            exact ro_pure (v := .agg (cv cell0)) (wanted_yes rfl rfl rfl (show _ = _ from rk_at hk (e := ⟨17, .guard⟩) (by simp) rfl rfl rfl)) (by simp [execOp, Act.eval, e3, f3, go_sem, hx]) rfl (Chg.refl _ _)
          refine RSteps.cons (fun a w' hc hp hk => ?_) ?_
          · have e235 : a.tmps.getD 235 undef = (.agg (cv cA) : Value) := (rk_at hk (e := ⟨18, .data⟩) (by simp) rfl rfl rfl)
            have f235 := gd e235
            have e236 : a.tmps.getD 236 undef = (.agg (cv cW) : Value) := (rk_at hk (e := ⟨19, .data⟩) (by simp) rfl rfl rfl)
            have f236 := gd e236
            have e237 : a.tmps.getD 237 undef = (.agg (cv cell0) : Value) := (rk_at hk (e := ⟨20, .data⟩) (by simp) rfl rfl rfl)
            have f237 := gd e237
            exact rstep_value (wanted_yes rfl rfl rfl (show _ = _ from rk_at hk (e := ⟨17, .guard⟩) (by simp) rfl rfl rfl)) (exec_bs rfl (by simp only [List.map_toArray, List.map_cons, List.map_nil, Act.eval, e235, e236, e237]) (run_bs3 cA cW cell0 w')) ⟨_, _, rfl, RdC.lit w' [cA, cW, cell0]⟩ (Chg.of_below (belA _ _) _)
          refine RSteps.cons (fun a w' hc hp hk => ?_) ?_
          · obtain ⟨A238, c238, e238, r238⟩ : ∃ A c, (a.tmps.getD 238 undef) = .slice A ([cA, cW, cell0] : List Cell).length c ∧ RdC w' A c [cA, cW, cell0] := (rk_at hk (e := ⟨21, .data⟩) (by simp) rfl rfl rfl)
            have HW := HB.out.trans ((chg_none hc).mono HB.out.size)
            exact ro_call (wanted_yes rfl rfl rfl (show _ = _ from rk_at hk (e := ⟨17, .guard⟩) (by simp) rfl rfl rfl)) rfl (by simp only [List.map_toArray, List.map_cons, List.map_nil, Act.eval, e238] <;> rfl) (fun _ _ => by kernel_rfl) ((l06hard_any A238 ([cA, cW, cell0] : List Cell).length c238 w').mono fun e w2 ⟨h1, h2⟩ => ⟨_, h1, ⟨A238, c238, rfl, (r238 : RdC w' A238 c238 [cA, cW, cell0]).bel h2⟩, Chg.of_below h2 _⟩)
          refine RSteps.cons (fun a w' hc hp hk => ?_) ?_
          · obtain ⟨A239, c239, e239, r239⟩ : ∃ A c, (a.tmps.getD 239 undef) = .agg #[.slice A ([cA, cW, cell0] : List Cell).length c, .bool false] ∧ RdC w' A c [cA, cW, cell0] := (rk_at hk (e := ⟨22, .data⟩) (by simp) rfl rfl rfl)
            have HW := HB.out.trans ((chg_none hc).mono HB.out.size)
            exact ro_call (wanted_yes rfl rfl rfl (show _ = _ from rk_at hk (e := ⟨17, .guard⟩) (by simp) rfl rfl rfl)) rfl (by simp only [List.map_toArray, List.map_cons, List.map_nil, Act.eval, e239] <;> rfl) (fun _ _ => by kernel_rfl) ((lineCopy_any A239 c239 [cA, cW, cell0] false w' r239 (by decide)).mono fun e w2 ⟨v, h1, h2, h3⟩ => (by obtain ⟨A9, c9, rfl, r9⟩ := h2.form; exact ⟨_, h1, ⟨A9, c9, rfl, r9⟩, Chg.of_below h3 _⟩))
          refine RSteps.cons (fun a w' hc hp hk => ?_) ?_
          · have e1 : a.tmps.getD 1 undef = (.pointer (some ⟨b1, 0, none⟩) : Value) := (rk_same hk 1 (by kernel_rfl)).trans rfl
            have f1 := gd e1
            have hx := (K0.out.bel (chg_none hc)).h1.cellAt
            exact ro_pure (v := .agg (cv cA)) (wanted_yes rfl rfl rfl (show _ = _ from rk_at hk (e := ⟨17, .guard⟩) (by simp) rfl rfl rfl)) (by simp [execOp, Act.eval, e1, f1, go_sem, hx]) rfl (Chg.refl _ _)
          refine RSteps.cons (fun a w' hc hp hk => ?_) ?_
          · have e2 : a.tmps.getD 2 undef = (.pointer (some ⟨b2, 0, none⟩) : Value) := (rk_same hk 2 (by kernel_rfl)).trans rfl
            have f2 := gd e2
            have hx := (K0.out.bel (chg_none hc)).h2.cellAt
            exact ro_pure (v := .agg (cv cW)) (wanted_yes rfl rfl rfl (show _ = _ from rk_at hk (e := ⟨17, .guard⟩) (by simp) rfl rfl rfl)) (by simp [execOp, Act.eval, e2, f2, go_sem, hx]) rfl (Chg.refl _ _)
          refine RSteps.cons (fun a w' hc hp hk => ?_) ?_
          · have e3 : a.tmps.getD 3 undef = (.pointer (some ⟨b3, 0, none⟩) : Value) := (rk_same hk 3 (by kernel_rfl)).trans rfl
            have f3 := gd e3
            have hx := (K0.out.bel (chg_none hc)).h3.cellAt
            exact ro_pure (v := .agg (cv cell0)) (wanted_yes rfl rfl rfl (show _ = _ from rk_at hk (e := ⟨17, .guard⟩) (by simp) rfl rfl rfl)) (by simp [execOp, Act.eval, e3, f3, go_sem, hx]) rfl (Chg.refl _ _)
          refine RSteps.cons (fun a w' hc hp hk => ?_) ?_
          · have e241 : a.tmps.getD 241 undef = (.agg (cv cA) : Value) := (rk_at hk (e := ⟨24, .data⟩) (by simp) rfl rfl rfl)
            have f241 := gd e241
            have e242 : a.tmps.getD 242 undef = (.agg (cv cW) : Value) := (rk_at hk (e := ⟨25, .data⟩) (by simp) rfl rfl rfl)
            have f242 := gd e242
            have e243 : a.tmps.getD 243 undef = (.agg (cv cell0) : Value) := (rk_at hk (e := ⟨26, .data⟩) (by simp) rfl rfl rfl)
            have f243 := gd e243
            exact rstep_value (wanted_yes rfl rfl rfl (show _ = _ from rk_at hk (e := ⟨17, .guard⟩) (by simp) rfl rfl rfl)) (exec_bs rfl (by simp only [List.map_toArray, List.map_cons, List.map_nil, Act.eval, e241, e242, e243]) (run_bs3 cA cW cell0 w')) ⟨_, _, rfl, RdC.lit w' [cA, cW, cell0]⟩ (Chg.of_below (belA _ _) _)
          refine RSteps.cons (fun a w' hc hp hk => ?_) ?_
          · obtain ⟨A244, c244, e244, r244⟩ : ∃ A c, (a.tmps.getD 244 undef) = .slice A ([cA, cW, cell0] : List Cell).length c ∧ RdC w' A c [cA, cW, cell0] := (rk_at hk (e := ⟨27, .data⟩) (by simp) rfl rfl rfl)
            have HW := HB.out.trans ((chg_none hc).mono HB.out.size)
            exact ro_call (wanted_yes rfl rfl rfl (show _ = _ from rk_at hk (e := ⟨17, .guard⟩) (by simp) rfl rfl rfl)) rfl (by simp only [List.map_toArray, List.map_cons, List.map_nil, Act.eval, e244] <;> rfl) (fun _ _ => by kernel_rfl) ((l06hard_any A244 ([cA, cW, cell0] : List Cell).length c244 w').mono fun e w2 ⟨h1, h2⟩ => ⟨_, h1, ⟨A244, c244, rfl, (r244 : RdC w' A244 c244 [cA, cW, cell0]).bel h2⟩, Chg.of_below h2 _⟩)
          refine RSteps.cons (fun a w' hc hp hk => ?_) ?_
          · obtain ⟨A240, c240, e240, r240⟩ : ∃ A c, (a.tmps.getD 240 undef) = .agg #[.slice A ([cA, cW, cell0] : List Cell).length c, .bool false] ∧ RdC w' A c [cA, cW, cell0] := (rk_at hk (e := ⟨23, .data⟩) (by simp) rfl rfl rfl)
            obtain ⟨A245, c245, e245, r245⟩ : ∃ A c, (a.tmps.getD 245 undef) = .agg #[.slice A ([cA, cW, cell0] : List Cell).length c, .bool false] ∧ RdC w' A c [cA, cW, cell0] := (rk_at hk (e := ⟨28, .data⟩) (by simp) rfl rfl rfl)
            have HW := HB.out.trans ((chg_none hc).mono HB.out.size)
            exact ro_call (wanted_yes rfl rfl rfl (show _ = _ from rk_at hk (e := ⟨17, .guard⟩) (by simp) rfl rfl rfl)) rfl (by simp only [List.map_toArray, List.map_cons, List.map_nil, Act.eval, e240, e245] <;> rfl) (fun _ _ => by kernel_rfl) (yes_of (r06Same_any A240 A245 c240 c245 [cA, cW, cell0] [cA, cW, cell0] false false w' r240 r245 (by decide) (by decide)) (by decide +kernel))
          refine RSteps.cons (fun a w' hc hp hk => ?_) ?_
          · have e234 : a.tmps.getD 234 undef = (.bool true : Value) := (rk_at hk (e := ⟨17, .data⟩) (by simp) rfl rfl rfl)
            have f234 := gd e234
            have e246 : a.tmps.getD 246 undef = (.bool true : Value) := (rk_at hk (e := ⟨29, .data⟩) (by simp) rfl rfl rfl)
            have f246 := gd e246
            exact ro_pure (v := .bool true) (wanted_none rfl) (by simp [execOp, Act.eval, e234, f234, e246, f246, go_sem]) rfl (Chg.refl _ _)
          refine RSteps.cons (fun a w' hc hp hk => ?_) ?_
          · have e247 : a.tmps.getD 247 undef = (.bool true : Value) := (rk_at hk (e := ⟨30, .data⟩) (by simp) rfl rfl rfl)
            have f247 := gd e247
            exact ro_pure (v := .bool true) (wanted_none rfl) (by simp [execOp, Act.eval, e247, f247, go_sem]) rfl (Chg.refl _ _)
          exact RSteps.nil
        · intro vs wz hc hv
          have q : vs 31 = .bool true := hv 31 (by decide) rfl
          have HC := Lib.hid (chg_none hc)
          clear hc hv
          simp only [putL, Act.put, Nat.zero_add, Nat.reduceAdd, q, List.setIfInBounds_toArray, List.set_cons_succ, List.set_cons_zero]
          clear q
          go_wp2_with fail
          go_ret
          exact ⟨rfl, HB.out.trans (HC.out.mono HB.out.size)⟩
end Go.Proofs.YtmfhepjmmpnkaaaDoor
