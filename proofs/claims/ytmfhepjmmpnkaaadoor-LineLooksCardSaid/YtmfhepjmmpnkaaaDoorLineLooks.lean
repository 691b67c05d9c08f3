/-
  LineLooks: the walk.
-/
import Derived.Test.YtmfhepjmmpnkaaaDoorLinePuts
set_option linter.unusedSimpArgs false
set_option linter.unusedVariables false
namespace Go.Proofs.YtmfhepjmmpnkaaaDoor
open Go.RowKit

/-- The block of a slice of cells is no box of a line. -/
theorem own_noBox2 {w : World} {B n c g : Nat} {A : Option Addr} {cs : List Cell} {a : Array Value} (h : OwnC w B (.slice A n c) cs) (hA : A.map (·.block) = some g) (hk : Blk w g 59 a) : False := by
  cases A with
  | none => cases hA
  | some ad =>
    cases hA
    rcases h.2 with ⟨h', _⟩ | ⟨g', cap', cur, h', hb, hg, _⟩
    · simp at h'
    · simp only [Value.slice.injEq, Option.some.injEq] at h'
      obtain ⟨rfl, -, -⟩ := h'
      have := hg.symm.trans hk
      simp only [Option.some.injEq, Obj.cells.injEq] at this
      exact absurd this.2.1 (by decide)

set_option maxRecDepth 100000 in
set_option maxHeartbeats 4000000 in
theorem l06LineLooks_any (A0 : Option Addr) (c0 : Nat) (l0 : List Cell) (s0 : Bool) (A1 : Option Addr) (c1 : Nat) (l1 : List Cell) (s1 : Bool) (w : World) (ht : Tabs w) (ha0 : RdC w A0 c0 l0) (hm0 : c0 ≤ maxLen) (ha1 : RdC w A1 c1 l1) (hm1 : c1 ≤ maxLen) :
    Calls Tryd.prog 9 #[.agg #[.slice A0 l0.length c0, .bool s0], .agg #[.slice A1 l1.length c1, .bool s1]] w fun e w' => e = .returned (.bool true) ∧ Below w.heap.size w w' := by
  have HT := Lib.hid ht
  have HA0 := Lib.hid ha0
  have HA1 := Lib.hid ha1
  have hlen0 : l0.length ≤ 9223372036854775807 := by have := ha0.1; unfold maxLen at hm0; omega
  have hlen1 : l1.length ≤ 9223372036854775807 := by have := ha1.1; unfold maxLen at hm1; omega
  clear ht ha0 ha1 hm0 hm1
  by_cases h0 : l0.length ≤ 40
  case neg =>
    go_enter Tryd.func9, Tryd.ntmps9
    go_wp2_with fail
    refine (small_no h0 hlen0 _ _ _ _).mono ?_
    rintro e w1 ⟨rfl, hb⟩
    go_wp2_with fail
    refine (l06known_any _ (HT.out.bel (bel1 (bel1 hb)))).mono ?_
    rintro e w2 ⟨rfl, hb2⟩
    go_wp2_with fail
    go_ret
    exact ⟨rfl, (bel1 (bel1 hb)).trans (hb2.mono (bel1 (bel1 hb)).size)⟩
  by_cases h1 : l1.length ≤ 40
  case neg =>
    go_enter Tryd.func9, Tryd.ntmps9
    go_wp2_with fail
    refine (small_yes h0 _ _ _ _).mono ?_
    rintro e w1 ⟨rfl, hb⟩
    obtain ⟨k2, k3, hb1⟩ := box2 hb
    obtain ⟨hx3, hf3, hz3⟩ := k3.facts
    clear hb k2 k3
    go_wp2_with fail
    refine (small_no h1 hlen1 _ _ _ _).mono ?_
    rintro e w2 ⟨rfl, hb2⟩
    have HB2 := Lib.hid (hb1.trans (hb2.mono hb1.size))
    go_wp2_with fail
    refine (l06known_any _ (HT.out.bel HB2.out)).mono ?_
    rintro e w3 ⟨rfl, hb3⟩
    go_wp2_with fail
    go_ret
    exact ⟨rfl, HB2.out.trans (hb3.mono HB2.out.size)⟩
  go_enter Tryd.func9, Tryd.ntmps9
  go_wp2_with fail
  refine (small_yes h0 _ _ _ _).mono ?_
  rintro e w1 ⟨rfl, hb⟩
  obtain ⟨k2, k3, hb1⟩ := box2 hb
  have K21 := Lib.hid k2
  have K31 := Lib.hid k3
  have HB1 := Lib.hid hb1
  obtain ⟨hx3, hf3, hz3⟩ := k3.facts
  clear hb k2 k3 hb1
  go_wp2_with fail
  refine (small_yes h1 _ _ _ _).mono ?_
  rintro e W ⟨rfl, hb2⟩
  have K2 := Lib.hid (K21.out.bel hb2)
  have K3 := Lib.hid (K31.out.bel hb2)
  have HB := Lib.hid (HB1.out.trans (hb2.mono HB1.out.size))
  clear hb2 hx3 hf3 hz3 K21 K31 HB1
  go_upto_region 3 with (fail)
  generalize w.heap.size + 1 = b3 at K3 ⊢
  generalize hw2 : w.heap.size = b2 at K2 ⊢
  clear hw2
  have q1 : ((usedOf l0 : Int) != (usedOf l0 : Int)) = false := by simp
  have q2 : True := trivial
  have q3 : (eqL l0 s0 l1 s1 != eqL l0 s0 l1 s1) = false := by simp
  refine wp_region_multi (by kernel_rfl) (by kernel_rfl) (by kernel_rfl) (fun i => none) (fun i k h => ?_) (noBlk) [Sr.val (.agg #[.slice A0 l0.length c0, .bool s0]), Sr.val (.int .i64 (usedOf l0)), Sr.val (.agg #[.slice A0 l0.length c0, .bool s0]), Sr.val (.int .i64 (usedOf l0)), Sr.val (.bool false), Sr.val (.bool false), Sr.val (.agg #[.slice A0 l0.length c0, .bool s0]), Sr.val (.string (textsOf (trimL l0))), Sr.val (.agg #[.slice A0 l0.length c0, .bool s0]), Sr.val (.string (textsOf (trimL l0))), Sr.val (.bool false), Sr.val (.bool false), Sr.val (.bool false), Sr.val (.agg #[.slice A0 l0.length c0, .bool s0]), Sr.val (.agg #[.slice A1 l1.length c1, .bool s1]), Sr.val (.bool (eqL l0 s0 l1 s1)), Sr.val (.agg #[.slice A0 l0.length c0, .bool s0]), Sr.val (.agg #[.slice A1 l1.length c1, .bool s1]), Sr.val (.bool (eqL l0 s0 l1 s1)), Sr.val (.bool false), Sr.val (.bool false), Sr.val (.bool false), Sr.val (.agg #[.slice A0 l0.length c0, .bool s0]), Sr.val (.agg #[.slice A0 l0.length c0, .bool s0]), Sr.val (.bool true), Sr.val (.bool false), Sr.val (.bool false)] [] [] (fun p hp => by cases hp) (fun p hp => by cases hp) (fun p hp => by cases hp) (fun p hp => by cases hp) ?_ ?_ ?_
  · cases h
  · intro q hq
    cases hq
  · refine RSteps.cons (fun a w' hc hp hk => ?_) ?_
    · have e2 : a.tmps.getD 2 undef = (.pointer (some ⟨b2, 0, none⟩) : Value) := (rk_same hk 2 (by kernel_rfl)).trans rfl
      have f2 := gd e2
      have hx := (K2.out.bel (chg_none hc)).cell
      exact ro_pure (v := .agg #[.slice A0 l0.length c0, .bool s0]) (wanted_none rfl) (by simp [execOp, Act.eval, e2, f2, go_sem, hx]) rfl (Chg.refl _ _)
    refine RSteps.cons (fun a w' hc hp hk => ?_) ?_
    · have e16 : a.tmps.getD 16 undef = (.agg #[.slice A0 l0.length c0, .bool s0] : Value) := (rk_at hk (e := ⟨0, .data⟩) (by simp) rfl rfl rfl)
      have f16 := gd e16
      have HW := HB.out.trans ((chg_none hc).mono HB.out.size)
      exact ro_call (wanted_none rfl) rfl (by simp only [List.map_toArray, List.map_cons, List.map_nil, Act.eval, e16]) (fun _ _ => by kernel_rfl) ((lineUsed_any A0 c0 l0 s0 w' (HA0.out.bel HW) (by omega)).mono fun e w2 ⟨h1, h2⟩ => ⟨_, h1, rfl, Chg.of_below h2 _⟩)
    refine RSteps.cons (fun a w' hc hp hk => ?_) ?_
    · have e2 : a.tmps.getD 2 undef = (.pointer (some ⟨b2, 0, none⟩) : Value) := (rk_same hk 2 (by kernel_rfl)).trans rfl
      have f2 := gd e2
      have hx := (K2.out.bel (chg_none hc)).cell
      exact ro_pure (v := .agg #[.slice A0 l0.length c0, .bool s0]) (wanted_none rfl) (by simp [execOp, Act.eval, e2, f2, go_sem, hx]) rfl (Chg.refl _ _)
    refine RSteps.cons (fun a w' hc hp hk => ?_) ?_
    · have e18 : a.tmps.getD 18 undef = (.agg #[.slice A0 l0.length c0, .bool s0] : Value) := (rk_at hk (e := ⟨2, .data⟩) (by simp) rfl rfl rfl)
      have f18 := gd e18
      have HW := HB.out.trans ((chg_none hc).mono HB.out.size)
      exact ro_call (wanted_none rfl) rfl (by simp only [List.map_toArray, List.map_cons, List.map_nil, Act.eval, e18]) (fun _ _ => by kernel_rfl) ((r06Used_any A0 c0 l0 s0 w' (HA0.out.bel HW) (by omega)).mono fun e w2 ⟨h1, h2⟩ => ⟨_, h1, rfl, Chg.of_below h2 _⟩)
    refine RSteps.cons (fun a w' hc hp hk => ?_) ?_
    · have e17 : a.tmps.getD 17 undef = (.int .i64 (usedOf l0) : Value) := (rk_at hk (e := ⟨1, .data⟩) (by simp) rfl rfl rfl)
      have f17 := gd e17
      have e19 : a.tmps.getD 19 undef = (.int .i64 (usedOf l0) : Value) := (rk_at hk (e := ⟨3, .data⟩) (by simp) rfl rfl rfl)
      have f19 := gd e19
      exact ro_pure (v := .bool false) (wanted_none rfl) (by simp [execOp, Act.eval, e17, f17, e19, f19, go_sem, q1, q2, q3]) rfl (Chg.refl _ _)
    refine RSteps.cons (fun a w' hc hp hk => ?_) ?_
    · have e20 : a.tmps.getD 20 undef = (.bool false : Value) := (rk_at hk (e := ⟨4, .data⟩) (by simp) rfl rfl rfl)
      have f20 := gd e20
      exact ro_pure (v := .bool false) (wanted_none rfl) (by simp [execOp, Act.eval, e20, f20, go_sem]) rfl (Chg.refl _ _)
    refine RSteps.cons (fun a w' hc hp hk => ?_) ?_
    · have e2 : a.tmps.getD 2 undef = (.pointer (some ⟨b2, 0, none⟩) : Value) := (rk_same hk 2 (by kernel_rfl)).trans rfl
      have f2 := gd e2
      have hx := (K2.out.bel (chg_none hc)).cell
      exact ro_pure (v := .agg #[.slice A0 l0.length c0, .bool s0]) (wanted_yes rfl rfl rfl (show _ = _ from rk_at hk (e := ⟨5, .guard⟩) (by simp) rfl rfl rfl)) (by simp [execOp, Act.eval, e2, f2, go_sem, hx]) rfl (Chg.refl _ _)
    refine RSteps.cons (fun a w' hc hp hk => ?_) ?_
    · have e22 : a.tmps.getD 22 undef = (.agg #[.slice A0 l0.length c0, .bool s0] : Value) := (rk_at hk (e := ⟨6, .data⟩) (by simp) rfl rfl rfl)
      have f22 := gd e22
      have HW := HB.out.trans ((chg_none hc).mono HB.out.size)
      exact ro_call (wanted_yes rfl rfl rfl (show _ = _ from rk_at hk (e := ⟨5, .guard⟩) (by simp) rfl rfl rfl)) rfl (by simp only [List.map_toArray, List.map_cons, List.map_nil, Act.eval, e22]) (fun _ _ => by kernel_rfl) ((lineText_any A0 c0 l0 s0 w' (HA0.out.bel HW) (by omega)).mono fun e w2 ⟨h1, h2⟩ => ⟨_, h1, rfl, Chg.of_below h2 _⟩)
    refine RSteps.cons (fun a w' hc hp hk => ?_) ?_
    · have e2 : a.tmps.getD 2 undef = (.pointer (some ⟨b2, 0, none⟩) : Value) := (rk_same hk 2 (by kernel_rfl)).trans rfl
      have f2 := gd e2
      have hx := (K2.out.bel (chg_none hc)).cell
      exact ro_pure (v := .agg #[.slice A0 l0.length c0, .bool s0]) (wanted_yes rfl rfl rfl (show _ = _ from rk_at hk (e := ⟨5, .guard⟩) (by simp) rfl rfl rfl)) (by simp [execOp, Act.eval, e2, f2, go_sem, hx]) rfl (Chg.refl _ _)
    refine RSteps.cons (fun a w' hc hp hk => ?_) ?_
    · have e24 : a.tmps.getD 24 undef = (.agg #[.slice A0 l0.length c0, .bool s0] : Value) := (rk_at hk (e := ⟨8, .data⟩) (by simp) rfl rfl rfl)
      have f24 := gd e24
      have HW := HB.out.trans ((chg_none hc).mono HB.out.size)
      exact ro_call (wanted_yes rfl rfl rfl (show _ = _ from rk_at hk (e := ⟨5, .guard⟩) (by simp) rfl rfl rfl)) rfl (by simp only [List.map_toArray, List.map_cons, List.map_nil, Act.eval, e24]) (fun _ _ => by kernel_rfl) ((r06Text_any A0 c0 l0 s0 w' (HA0.out.bel HW) (by omega)).mono fun e w2 ⟨h1, h2⟩ => ⟨_, h1, rfl, Chg.of_below h2 _⟩)
    refine RSteps.cons (fun a w' hc hp hk => ?_) ?_
    · have e23 : a.tmps.getD 23 undef = (.string (textsOf (trimL l0)) : Value) := (rk_at hk (e := ⟨7, .data⟩) (by simp) rfl rfl rfl)
      have f23 := gd e23
      have e25 : a.tmps.getD 25 undef = (.string (textsOf (trimL l0)) : Value) := (rk_at hk (e := ⟨9, .data⟩) (by simp) rfl rfl rfl)
      have f25 := gd e25
      exact ro_pure (v := .bool false) (wanted_yes rfl rfl rfl (show _ = _ from rk_at hk (e := ⟨5, .guard⟩) (by simp) rfl rfl rfl)) (by simp [execOp, Act.eval, e23, f23, e25, f25, go_sem, q1, q2, q3]) rfl (Chg.refl _ _)
    refine RSteps.cons (fun a w' hc hp hk => ?_) ?_
    · have e21 : a.tmps.getD 21 undef = (.bool false : Value) := (rk_at hk (e := ⟨5, .data⟩) (by simp) rfl rfl rfl)
      have f21 := gd e21
      have e26 : a.tmps.getD 26 undef = (.bool false : Value) := (rk_at hk (e := ⟨10, .data⟩) (by simp) rfl rfl rfl)
      have f26 := gd e26
      exact ro_pure (v := .bool false) (wanted_none rfl) (by simp [execOp, Act.eval, e21, f21, e26, f26, go_sem]) rfl (Chg.refl _ _)
    refine RSteps.cons (fun a w' hc hp hk => ?_) ?_
    · have e27 : a.tmps.getD 27 undef = (.bool false : Value) := (rk_at hk (e := ⟨11, .data⟩) (by simp) rfl rfl rfl)
      have f27 := gd e27
      exact ro_pure (v := .bool false) (wanted_none rfl) (by simp [execOp, Act.eval, e27, f27, go_sem]) rfl (Chg.refl _ _)
    refine RSteps.cons (fun a w' hc hp hk => ?_) ?_
    · have e2 : a.tmps.getD 2 undef = (.pointer (some ⟨b2, 0, none⟩) : Value) := (rk_same hk 2 (by kernel_rfl)).trans rfl
      have f2 := gd e2
      have hx := (K2.out.bel (chg_none hc)).cell
      exact ro_pure (v := .agg #[.slice A0 l0.length c0, .bool s0]) (wanted_yes rfl rfl rfl (show _ = _ from rk_at hk (e := ⟨12, .guard⟩) (by simp) rfl rfl rfl)) (by simp [execOp, Act.eval, e2, f2, go_sem, hx]) rfl (Chg.refl _ _)
    refine RSteps.cons (fun a w' hc hp hk => ?_) ?_
    · have e3 : a.tmps.getD 3 undef = (.pointer (some ⟨b3, 0, none⟩) : Value) := (rk_same hk 3 (by kernel_rfl)).trans rfl
      have f3 := gd e3
      have hx := (K3.out.bel (chg_none hc)).cell
      exact ro_pure (v := .agg #[.slice A1 l1.length c1, .bool s1]) (wanted_yes rfl rfl rfl (show _ = _ from rk_at hk (e := ⟨12, .guard⟩) (by simp) rfl rfl rfl)) (by simp [execOp, Act.eval, e3, f3, go_sem, hx]) rfl (Chg.refl _ _)
    refine RSteps.cons (fun a w' hc hp hk => ?_) ?_
    · have e29 : a.tmps.getD 29 undef = (.agg #[.slice A0 l0.length c0, .bool s0] : Value) := (rk_at hk (e := ⟨13, .data⟩) (by simp) rfl rfl rfl)
      have f29 := gd e29
      have e30 : a.tmps.getD 30 undef = (.agg #[.slice A1 l1.length c1, .bool s1] : Value) := (rk_at hk (e := ⟨14, .data⟩) (by simp) rfl rfl rfl)
      have f30 := gd e30
      have HW := HB.out.trans ((chg_none hc).mono HB.out.size)
      exact ro_call (wanted_yes rfl rfl rfl (show _ = _ from rk_at hk (e := ⟨12, .guard⟩) (by simp) rfl rfl rfl)) rfl (by simp only [List.map_toArray, List.map_cons, List.map_nil, Act.eval, e29, e30]) (fun _ _ => by kernel_rfl) ((lineEqual_any A0 A1 c0 c1 l0 l1 s0 s1 w' (HA0.out.bel HW) (HA1.out.bel HW) (by omega) (by omega)).mono fun e w2 ⟨h1, h2⟩ => ⟨_, h1, rfl, Chg.of_below h2 _⟩)
    refine RSteps.cons (fun a w' hc hp hk => ?_) ?_
    · have e2 : a.tmps.getD 2 undef = (.pointer (some ⟨b2, 0, none⟩) : Value) := (rk_same hk 2 (by kernel_rfl)).trans rfl
      have f2 := gd e2
      have hx := (K2.out.bel (chg_none hc)).cell
      exact ro_pure (v := .agg #[.slice A0 l0.length c0, .bool s0]) (wanted_yes rfl rfl rfl (show _ = _ from rk_at hk (e := ⟨12, .guard⟩) (by simp) rfl rfl rfl)) (by simp [execOp, Act.eval, e2, f2, go_sem, hx]) rfl (Chg.refl _ _)
    refine RSteps.cons (fun a w' hc hp hk => ?_) ?_
    · have e3 : a.tmps.getD 3 undef = (.pointer (some ⟨b3, 0, none⟩) : Value) := (rk_same hk 3 (by kernel_rfl)).trans rfl
      have f3 := gd e3
      have hx := (K3.out.bel (chg_none hc)).cell
      exact ro_pure (v := .agg #[.slice A1 l1.length c1, .bool s1]) (wanted_yes rfl rfl rfl (show _ = _ from rk_at hk (e := ⟨12, .guard⟩) (by simp) rfl rfl rfl)) (by simp [execOp, Act.eval, e3, f3, go_sem, hx]) rfl (Chg.refl _ _)
    refine RSteps.cons (fun a w' hc hp hk => ?_) ?_
    · have e32 : a.tmps.getD 32 undef = (.agg #[.slice A0 l0.length c0, .bool s0] : Value) := (rk_at hk (e := ⟨16, .data⟩) (by simp) rfl rfl rfl)
      have f32 := gd e32
      have e33 : a.tmps.getD 33 undef = (.agg #[.slice A1 l1.length c1, .bool s1] : Value) := (rk_at hk (e := ⟨17, .data⟩) (by simp) rfl rfl rfl)
      have f33 := gd e33
      have HW := HB.out.trans ((chg_none hc).mono HB.out.size)
      exact ro_call (wanted_yes rfl rfl rfl (show _ = _ from rk_at hk (e := ⟨12, .guard⟩) (by simp) rfl rfl rfl)) rfl (by simp only [List.map_toArray, List.map_cons, List.map_nil, Act.eval, e32, e33]) (fun _ _ => by kernel_rfl) ((r06Same_any A0 A1 c0 c1 l0 l1 s0 s1 w' (HA0.out.bel HW) (HA1.out.bel HW) (by omega) (by omega)).mono fun e w2 ⟨h1, h2⟩ => ⟨_, h1, rfl, Chg.of_below h2 _⟩)
    refine RSteps.cons (fun a w' hc hp hk => ?_) ?_
    · have e31 : a.tmps.getD 31 undef = (.bool (eqL l0 s0 l1 s1) : Value) := (rk_at hk (e := ⟨15, .data⟩) (by simp) rfl rfl rfl)
      have f31 := gd e31
      have e34 : a.tmps.getD 34 undef = (.bool (eqL l0 s0 l1 s1) : Value) := (rk_at hk (e := ⟨18, .data⟩) (by simp) rfl rfl rfl)
      have f34 := gd e34
      exact ro_pure (v := .bool false) (wanted_yes rfl rfl rfl (show _ = _ from rk_at hk (e := ⟨12, .guard⟩) (by simp) rfl rfl rfl)) (by simp [execOp, Act.eval, e31, f31, e34, f34, go_sem, q1, q2, q3]) rfl (Chg.refl _ _)
    refine RSteps.cons (fun a w' hc hp hk => ?_) ?_
    · have e28 : a.tmps.getD 28 undef = (.bool false : Value) := (rk_at hk (e := ⟨12, .data⟩) (by simp) rfl rfl rfl)
      have f28 := gd e28
      have e35 : a.tmps.getD 35 undef = (.bool false : Value) := (rk_at hk (e := ⟨19, .data⟩) (by simp) rfl rfl rfl)
      have f35 := gd e35
      exact ro_pure (v := .bool false) (wanted_none rfl) (by simp [execOp, Act.eval, e28, f28, e35, f35, go_sem]) rfl (Chg.refl _ _)
    refine RSteps.cons (fun a w' hc hp hk => ?_) ?_
    · have e36 : a.tmps.getD 36 undef = (.bool false : Value) := (rk_at hk (e := ⟨20, .data⟩) (by simp) rfl rfl rfl)
      have f36 := gd e36
      exact ro_pure (v := .bool false) (wanted_none rfl) (by simp [execOp, Act.eval, e36, f36, go_sem]) rfl (Chg.refl _ _)
    refine RSteps.cons (fun a w' hc hp hk => ?_) ?_
    · have e2 : a.tmps.getD 2 undef = (.pointer (some ⟨b2, 0, none⟩) : Value) := (rk_same hk 2 (by kernel_rfl)).trans rfl
      have f2 := gd e2
      have hx := (K2.out.bel (chg_none hc)).cell
      exact ro_pure (v := .agg #[.slice A0 l0.length c0, .bool s0]) (wanted_yes rfl rfl rfl (show _ = _ from rk_at hk (e := ⟨21, .guard⟩) (by simp) rfl rfl rfl)) (by simp [execOp, Act.eval, e2, f2, go_sem, hx]) rfl (Chg.refl _ _)
    refine RSteps.cons (fun a w' hc hp hk => ?_) ?_
    · have e2 : a.tmps.getD 2 undef = (.pointer (some ⟨b2, 0, none⟩) : Value) := (rk_same hk 2 (by kernel_rfl)).trans rfl
      have f2 := gd e2
      have hx := (K2.out.bel (chg_none hc)).cell
      exact ro_pure (v := .agg #[.slice A0 l0.length c0, .bool s0]) (wanted_yes rfl rfl rfl (show _ = _ from rk_at hk (e := ⟨21, .guard⟩) (by simp) rfl rfl rfl)) (by simp [execOp, Act.eval, e2, f2, go_sem, hx]) rfl (Chg.refl _ _)
    refine RSteps.cons (fun a w' hc hp hk => ?_) ?_
    · have e38 : a.tmps.getD 38 undef = (.agg #[.slice A0 l0.length c0, .bool s0] : Value) := (rk_at hk (e := ⟨22, .data⟩) (by simp) rfl rfl rfl)
      have f38 := gd e38
      have e39 : a.tmps.getD 39 undef = (.agg #[.slice A0 l0.length c0, .bool s0] : Value) := (rk_at hk (e := ⟨23, .data⟩) (by simp) rfl rfl rfl)
      have f39 := gd e39
      have HW := HB.out.trans ((chg_none hc).mono HB.out.size)
      exact ro_call (wanted_yes rfl rfl rfl (show _ = _ from rk_at hk (e := ⟨21, .guard⟩) (by simp) rfl rfl rfl)) rfl (by simp only [List.map_toArray, List.map_cons, List.map_nil, Act.eval, e38, e39]) (fun _ _ => by kernel_rfl) ((tt_of (lineEqual_any A0 A0 c0 c0 l0 l0 s0 s0 w' (HA0.out.bel HW) (HA0.out.bel HW) (by omega) (by omega)) (eqL_self _ _)).mono fun e w2 ⟨h1, h2⟩ => ⟨_, h1, rfl, Chg.of_below h2 _⟩)
    refine RSteps.cons (fun a w' hc hp hk => ?_) ?_
    · have e40 : a.tmps.getD 40 undef = (.bool true : Value) := (rk_at hk (e := ⟨24, .data⟩) (by simp) rfl rfl rfl)
      have f40 := gd e40
      exact ro_pure (v := .bool false) (wanted_yes rfl rfl rfl (show _ = _ from rk_at hk (e := ⟨21, .guard⟩) (by simp) rfl rfl rfl)) (by simp [execOp, Act.eval, e40, f40, go_sem]) rfl (Chg.refl _ _)
    refine RSteps.cons (fun a w' hc hp hk => ?_) ?_
    · have e37 : a.tmps.getD 37 undef = (.bool false : Value) := (rk_at hk (e := ⟨21, .data⟩) (by simp) rfl rfl rfl)
      have f37 := gd e37
      have e41 : a.tmps.getD 41 undef = (.bool false : Value) := (rk_at hk (e := ⟨25, .data⟩) (by simp) rfl rfl rfl)
      have f41 := gd e41
      exact ro_pure (v := .bool false) (wanted_none rfl) (by simp [execOp, Act.eval, e37, f37, e41, f41, go_sem]) rfl (Chg.refl _ _)
    exact RSteps.nil
  · intro vs wz hc hv
    have q : vs 26 = .bool false := hv 26 (by decide) rfl
    have HC := Lib.hid (chg_none hc)
    clear hc hv q1 q2 q3
    simp only [putL, Act.put, Nat.zero_add, Nat.reduceAdd, q, List.setIfInBounds_toArray, List.set_cons_succ, List.set_cons_zero]
    clear q
    have K2 := Lib.hid (K2.out.bel HC.out)
    have HB := Lib.hid (HB.out.trans (HC.out.mono HB.out.size))
    clear HC K3
    obtain ⟨hx2, hf2, hz2⟩ := K2.out.facts
    go_wp2_with fail
    refine (r06Copy_any A0 c0 l0 s0 _ (HA0.out.bel HB.out) (by omega)).mono ?_
    rintro e w5 ⟨v5, rfl, ho5, hb5⟩
    obtain ⟨A5, c5, rfl, hr5⟩ := ho5.form
    have hb55 := hb5.trans ((belA w5 (.cells #[.slice A5 l0.length c5, .bool s0] 59)).mono hb5.size)
    have K5 := Lib.hid (Blk.new w5 59 #[.slice A5 l0.length c5, .bool s0])
    have R5 := Lib.hid (hr5.bel (belA w5 (.cells #[.slice A5 l0.length c5, .bool s0] 59)))
    have K25 := Lib.hid (K2.out.bel hb55)
    have HB5 := Lib.hid (HB.out.trans (hb55.mono HB.out.size))
    clear ho5 hb5 hr5 hb55 hx2 hf2 hz2 K2 HB
    go_upto_region 6 with (fail)
    generalize w5.alloc (.cells #[.slice A5 l0.length c5, .bool s0] 59) = W5 at K5 R5 K25 HB5 ⊢
    generalize w5.heap.size = b5 at K5 ⊢
    obtain ⟨hx2, hf2, hz2⟩ := K25.out.facts
    go_wp2_with fail
    refine (lineCopy_any A0 c0 l0 s0 _ (HA0.out.bel HB5.out) (by omega)).mono ?_
    rintro e w6 ⟨v6, rfl, ho6, hb6⟩
    obtain ⟨A6, c6, rfl, -⟩ := ho6.form
    have hb66 := hb6.trans ((belA w6 (.cells #[.slice A6 l0.length c6, .bool s0] 59)).mono hb6.size)
    have K6 := Lib.hid (Blk.new w6 59 #[.slice A6 l0.length c6, .bool s0])
    have HO6 := Lib.hid (ho6.bel (belA w6 (.cells #[.slice A6 l0.length c6, .bool s0] 59)))
    have K26 := Lib.hid (K25.out.bel hb66)
    have K56 := Lib.hid (K5.out.bel hb66)
    have R56 := Lib.hid (R5.out.bel hb66)
    have HC6 := Lib.hid hb66
    have HB6 := Lib.hid (HB5.out.trans (hb66.mono HB5.out.size))
    clear ho6 hb6 hb66 hx2 hf2 hz2
    go_upto_region 7 with (fail)
    generalize w6.alloc (.cells #[.slice A6 l0.length c6, .bool s0] 59) = W6 at K6 HO6 K26 K56 R56 HC6 HB6 ⊢
    generalize w6.heap.size = b6 at K6 ⊢
    obtain ⟨Aq, cq, hve, hrq⟩ := HO6.out.form
    injection hve with e1 _ e2
    subst e1
    subst e2
    have HR6 := Lib.hid hrq
    clear hrq
    obtain ⟨hx6, hf6, hz6⟩ := K6.out.facts
    obtain ⟨hx5, hf5, hz5⟩ := K56.out.facts
    go_wp2_with fail
    refine (tt_of (r06Same_any _ _ _ _ _ _ _ _ _ HR6.out R56.out (by omega) (by omega)) (eqL_self _ _)).mono ?_
    rintro e w7 ⟨rfl, hb7⟩
    have K67 := Lib.hid (K6.out.bel hb7)
    have HO7 := Lib.hid (HO6.out.bel hb7)
    have HC7 := Lib.hid (HC6.out.trans (hb7.mono HC6.out.size))
    clear hb7 hx6 hf6 hz6 hx5 hf5 hz5
    obtain ⟨hx6, hf6, hz6⟩ := K67.out.facts
    go_wp2_with fail
    refine (r04Stain_any _ A6 c6 _ _ HO7.out (by omega)).mono ?_
    rintro e w8 ⟨rfl, hg8⟩
    have HC8 := Lib.hid (HC7.out.grown hg8 HC7.out.size (fun q hq => own_ge HO7.out q hq))
    have HB8 := Lib.hid (HB5.out.trans (HC8.out.mono HB5.out.size))
    have K28 := Lib.hid (K25.out.bel HC8.out)
    have K58 := Lib.hid (K5.out.bel HC8.out)
    have R58 := Lib.hid (R5.out.bel HC8.out)
    clear hg8 hx6 hf6 hz6
    obtain ⟨hx2, hf2, hz2⟩ := K28.out.facts
    obtain ⟨hx5, hf5, hz5⟩ := K58.out.facts
    go_wp2_with fail
    refine (tt_of (r06Same_any _ _ _ _ _ _ _ _ _ (HA0.out.bel HB8.out) R58.out (by omega) (by omega)) (eqL_self _ _)).mono ?_
    rintro e w9 ⟨rfl, hb9⟩
    have HB9 := Lib.hid (HB8.out.trans (hb9.mono HB8.out.size))
    clear hb9
    go_wp2_with fail
    refine (l06known_any _ (HT.out.bel HB9.out)).mono ?_
    rintro e w10 ⟨rfl, hb10⟩
    go_wp2_with fail
    go_ret
    exact ⟨rfl, HB9.out.trans (hb10.mono HB9.out.size)⟩
end Go.Proofs.YtmfhepjmmpnkaaaDoor
