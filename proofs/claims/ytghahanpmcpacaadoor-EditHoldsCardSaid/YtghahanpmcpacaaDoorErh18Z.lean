/-
  EditHolds, the stage's theorem: the law returns true.
-/
import Derived.Test.YtghahanpmcpacaaDoorErs18Z
set_option linter.unusedSimpArgs false
set_option linter.unusedVariables false
namespace Go.Proofs.YtghahanpmcpacaaDoor
open Go.RowKit

theorem store_av18_newP {g : Nat} (w : World) (zs : Array Value) (a : Act18) (hb : g = w.heap.size) (hz : zs.size = 18) :
    (storeCells ⟨g, 0, none⟩ (av18 a).toList 0).run Tryd.prog (w.alloc (.cells zs 50)) = .ok () (w.alloc (.cells (av18 a) 50)) := by
  subst hb
  have := store_recE (P := Tryd.prog) (w.alloc (.cells zs 50)) w.heap.size 50 zs (av18 a) (Blk.new _ _ _) (by rw [hz, av18_size]) (av18_one a)
  rw [this, World.setRow_alloc_new]
@[go_sem] theorem store_av18_new {g : Nat} (w : World) (zs : Array Value) (wh n r c t b : Int) (pe : Bool) (q : Pen) (hb : g = w.heap.size) (hz : zs.size = 18) :
    (storeCells ⟨g, 0, none⟩ (av18 ⟨wh, n, r, c, pe, t, b, q⟩).toList 0).run Tryd.prog (w.alloc (.cells zs 50)) = .ok () (w.alloc (.cells (av18 ⟨wh, n, r, c, pe, t, b, q⟩) 50)) := store_av18_newP w zs _ hb hz
set_option maxHeartbeats 1000000 in
theorem blank_is (c : Cell) (w : World) (hr : c.rune = 0) : Calls Tryd.prog 33 #[.agg (cv c)] w fun e w' => e = .returned (.bool true) ∧ Below w.heap.size w w' := by
  obtain ⟨r, m0, m1, m2, wd, p⟩ := c
  simp only at hr
  subst hr
  go_enter Tryd.func33, Tryd.ntmps33
  go_wp2_with fail
  go_ret
  exact ⟨rfl, Below.alloc (Below.refl _ _) (Nat.le_refl _) _⟩
set_option maxRecDepth 100000 in
set_option maxHeartbeats 16000000 in
theorem l18EditHolds_any (rows cols : Int) (A : Option Addr) (c : Nat) (fill : List Cell) (soft : Int) (a : Act18) (mm : Int) (w : World) (hT : Tabs w) (ha : RdC w A c fill) (hm : c ≤ maxLen) (hs : 0 ≤ soft ∧ soft ≤ 65535) (hn : a.n ≤ 9223372036854775807) (hmr : 0 ≤ mm ∧ mm ≤ 255) :
    Calls Tryd.prog 10 #[.int .i64 rows, .int .i64 cols, .slice A fill.length c, .int .u16 soft, .agg (av18 a), .int .u8 mm] w fun e w' => e = .returned (.bool true) ∧ Below w.heap.size w w' := by
  have HT := Lib.hid hT
  have HA := Lib.hid ha
  have hfm : fill.length ≤ maxLen := Nat.le_trans ha.1 hm
  obtain ⟨wh, n, row, col, pend, top, bot, q⟩ := a
  clear hT ha hm
  cases hsm : smallB rows cols fill.length with
  | false =>
    have HSM := Lib.hid hsm
    clear hsm
    go_enter Tryd.func10, Tryd.ntmps10
    go_upto_region 1 with (fail)
    refine at_objsC (objs_start w).alloc1 (fun W hW => ?_)
    generalize hb10 : w.heap.size = b10 at hW ⊢
    clear hb10
    obtain ⟨hx10, hf10, hz10, hr10, hp10⟩ := (hW.box (k := 0) rfl).act18
    have S := Lib.hid hW
    clear hW
    go_wp2_with fail
    refine (l18small_any rows cols A fill.length c _ hfm).mono ?_
    rw [HSM.out]
    rintro e w1 ⟨rfl, rfl⟩
    go_wp2_with fail
    refine (l18known_any _ (S.out.tabs HT.out)).mono ?_
    rintro e wk ⟨rfl, hb⟩
    have HB := Lib.hid (S.out.bel hb).base
    clear hb
    go_wp2_with fail
    go_ret
    exact ⟨rfl, HB.out⟩
  | true =>
    obtain ⟨rr, s, rfl, rfl, ⟨h1, h2⟩, ⟨h3, h4⟩, h5⟩ := small_true hsm
    have HSM := Lib.hid hsm
    clear hsm
    by_cases h20 : 20 < n
    · have d20 : decide (20 < n) = true := decide_eq_true h20
      go_enter Tryd.func10, Tryd.ntmps10
      go_upto_region 1 with (fail)
      refine at_objsC (objs_start w).alloc1 (fun W hW => ?_)
      generalize hb10 : w.heap.size = b10 at hW ⊢
      clear hb10
      obtain ⟨hx10, hf10, hz10, hr10, hp10⟩ := (hW.box (k := 0) rfl).act18
      have S := Lib.hid hW
      clear hW
      go_wp2_with fail
      refine (l18small_any rr s A fill.length c _ hfm).mono ?_
      rw [HSM.out]
      rintro e w1 ⟨rfl, rfl⟩
      go_wp2_with fail
      refine (l18known_any _ (S.out.tabs HT.out)).mono ?_
      rintro e wk ⟨rfl, hb⟩
      have HB := Lib.hid (S.out.bel hb).base
      clear hb
      go_wp2_with fail
      go_ret
      exact ⟨rfl, HB.out⟩
    have d20 : decide (20 < n) = false := decide_eq_false h20
    by_cases hm20 : 20 < mm
    · have dm20 : decide (20 < mm) = true := decide_eq_true hm20
      go_enter Tryd.func10, Tryd.ntmps10
      go_upto_region 1 with (fail)
      refine at_objsC (objs_start w).alloc1 (fun W hW => ?_)
      generalize hb10 : w.heap.size = b10 at hW ⊢
      clear hb10
      obtain ⟨hx10, hf10, hz10, hr10, hp10⟩ := (hW.box (k := 0) rfl).act18
      have S := Lib.hid hW
      clear hW
      go_wp2_with fail
      refine (l18small_any rr s A fill.length c _ hfm).mono ?_
      rw [HSM.out]
      rintro e w1 ⟨rfl, rfl⟩
      go_wp2_with fail
      refine (l18known_any _ (S.out.tabs HT.out)).mono ?_
      rintro e wk ⟨rfl, hb⟩
      have HB := Lib.hid (S.out.bel hb).base
      clear hb
      go_wp2_with fail
      go_ret
      exact ⟨rfl, HB.out⟩
    have dm20 : decide (20 < mm) = false := decide_eq_false hm20
    go_enter Tryd.func10, Tryd.ntmps10
    go_upto_region 1 with (fail)
    refine at_objsC (objs_start w).alloc1 (fun W hW => ?_)
    generalize hb10 : w.heap.size = b10 at hW ⊢
    clear hb10
    obtain ⟨hx10, hf10, hz10, hr10, hp10⟩ := (hW.box (k := 0) rfl).act18
    have S := Lib.hid hW
    clear hW
    go_wp2_with fail
    refine (l18small_any rr s A fill.length c _ hfm).mono ?_
    rw [HSM.out]
    rintro e w1 ⟨rfl, rfl⟩
    go_wp2_with fail
    refine (l18begun_base A c fill rr s soft _ (S.out.tabs HT.out) (HA.out.bel S.out.base) h1 h2 h3 h4 h5 hs).mono ?_
    rintro e w1 ⟨p, x, rfl, hS⟩
    have hc0 : 0 < s := by omega
    have hcm0 : s ≤ 1000 := by omega
    have HR0 := Lib.hid (begunP_rect rr s fill soft).1
    have HW2 := Lib.hid (begunP_w2 rr s fill soft)
    have hlen0 := (begunP_rect rr s fill soft).2
    obtain ⟨L0, hL0e⟩ : ∃ L0, L0 = begunP rr s fill soft := ⟨_, rfl⟩
    rw [← hL0e] at HR0 HW2 hlen0 hS
    have hL0 : 0 < L0.length := by omega
    have hLm0 : L0.length ≤ 1000000 := by omega
    have hLm5 : L0.length ≤ 100000 := by omega
    have S1 := Lib.hid (show Objs w w1 [.grid p 37 ↑s L0, .grid x 63 ↑s L0, .box b10 50 (av18 ⟨wh, n, row, col, pend, top, bot, q⟩)] from S.out.nestAll hS)
    clear hx10 hf10 hz10 hr10 hp10 hS S hL0e
    obtain ⟨hx10, hf10, hz10, hr10, hp10⟩ := (S1.out.box (k := 2) rfl).act18
    by_cases hw0 : wh < 0
    · have dw0 : decide (wh < 0) = true := decide_eq_true hw0
      go_wp2_with fail
      refine (l18known_any _ (S1.out.tabs HT.out)).mono ?_
      rintro e wk ⟨rfl, hb⟩
      have HB := Lib.hid (S1.out.bel hb).base
      clear hb
      go_wp2_with fail
      go_ret
      exact ⟨rfl, HB.out⟩
    have dw0 : decide (wh < 0) = false := decide_eq_false hw0
    by_cases hw3 : 3 < wh
    · have dw3 : decide (3 < wh) = true := decide_eq_true hw3
      go_wp2_with fail
      refine (l18known_any _ (S1.out.tabs HT.out)).mono ?_
      rintro e wk ⟨rfl, hb⟩
      have HB := Lib.hid (S1.out.bel hb).base
      clear hb
      go_wp2_with fail
      go_ret
      exact ⟨rfl, HB.out⟩
    have dw3 : decide (3 < wh) = false := decide_eq_false hw3
    go_wp2_with fail
    refine (l18right_any ⟨wh, n, row, col, pend, top, bot, q⟩ HT.out S1.out (k := 1) rfl hcm0).mono ?_
    rintro e w2 ⟨rfl, hS⟩
    have S2 := Lib.hid hS
    clear hS S1 hx10 hf10 hz10 hr10 hp10
    cases ho : act18ok ⟨wh, n, row, col, pend, top, bot, q⟩ L0.length s with
    | false =>
      clear ho
      go_wp2_with fail
      refine (l18known_any _ (S2.out.tabs HT.out)).mono ?_
      rintro e wk ⟨rfl, hb⟩
      have HB := Lib.hid (S2.out.bel hb).base
      clear hb
      go_wp2_with fail
      go_ret
      exact ⟨rfl, HB.out⟩
    | true =>
    have HO := Lib.hid ho
    obtain ⟨k1, k2, k3, k4⟩ := act18ok_iff.1 ho
    have hin := ingrid_iff.1 k1
    obtain ⟨y, rfl⟩ : ∃ y : Nat, row = y := ⟨row.toNat, by have := hin.1; simp at this ⊢; omega⟩
    obtain ⟨j, rfl⟩ : ∃ j : Nat, col = j := ⟨col.toNat, by have := hin.2.1; simp at this ⊢; omega⟩
    have hy : y < L0.length := by have := hin.1; simp at this; omega
    have hj : j < s := by have := hin.2.1; simp at this; omega
    simp only at k1 k2 k3 k4
    obtain ⟨N, rfl⟩ : ∃ N : Nat, n = N := ⟨n.toNat, by omega⟩
    obtain ⟨m, rfl⟩ : ∃ m : Nat, mm = m := ⟨mm.toNat, by omega⟩
    have hbot : wh = 0 ∨ wh = 1 ∨ bot < L0.length := by rcases k4 with h | h | h <;> omega
    have hbr : wh = 0 ∨ wh = 1 ∨ (0 ≤ top ∧ top ≤ bot ∧ bot < L0.length) := k4
    have HOKN := Lib.hid (show ∀ (wv nv : Int) (L : List Ln), L.length = L0.length → 0 ≤ nv → (wv = 0 ∨ wv = 1 ∨ (0 ≤ top ∧ top ≤ bot ∧ bot < L0.length)) → act18ok ⟨wv, nv, y, j, pend, top, bot, q⟩ L.length s = true from fun wv nv L h h0 hw => by rw [h]; exact act18ok_iff.2 ⟨k1, k2, h0, hw⟩)
    have HBR := Lib.hid hbr
    have HBOT := Lib.hid hbot
    obtain ⟨L1, hL1⟩ : ∃ L1, L1 = act18L ⟨wh, (N : Int), y, j, pend, top, bot, q⟩ s L0 := ⟨_, rfl⟩
    have HRL1 := Lib.hid (show Rect s L1 ∧ L1.length = L0.length by rw [hL1]; exact act18_rect HR0.out ho)
    have HO2 := Lib.hid (show act18ok ⟨wh, (m : Int), y, j, pend, top, bot, q⟩ L1.length s = true from HOKN.out _ _ _ HRL1.out.2 (by omega) hbr)
    have HO3 := Lib.hid (show act18ok ⟨wh, (N : Int) + (m : Int), y, j, pend, top, bot, q⟩ L0.length s = true from HOKN.out _ _ _ rfl (by omega) hbr)
    obtain ⟨L2, hL2⟩ : ∃ L2, L2 = act18L ⟨wh, (m : Int), y, j, pend, top, bot, q⟩ s L1 := ⟨_, rfl⟩
    have HRL2 := Lib.hid (show Rect s L2 ∧ L2.length = L0.length by have h := act18_rect HRL1.out.1 HO2.out; rw [hL2]; exact ⟨h.1, h.2.trans HRL1.out.2⟩)
    have HL1E := Lib.hid hL1.symm
    have HL2E := Lib.hid hL2.symm
    have HL3X := Lib.hid (show act18L ⟨wh, (N : Int) + (m : Int), y, j, pend, top, bot, q⟩ s L0 = L2 by rw [hL2, hL1]; exact (act18_two HR0.out HW2.out hj hbot).symm)
    have HWM := Lib.hid (show IntKind.i64.wrap (m : Int) = (m : Int) from IntWalk.i64_in _ (by omega))
    have HWA := Lib.hid (show IntKind.i64.wrap ((N : Int) + (m : Int)) = (N : Int) + (m : Int) from IntWalk.i64_in _ (by omega))
    have HWJ := Lib.hid (show IntKind.i64.wrap ((j : Int) - 1) = (j : Int) - 1 from IntWalk.i64_in _ (by omega))
    have HWS1 := Lib.hid (show IntKind.i64.wrap ((s : Int) - (N : Int)) = (s : Int) - (N : Int) from IntWalk.i64_in _ (by omega))
    have HWS2 := Lib.hid (show IntKind.i64.wrap ((s : Int) - (N : Int) - 1) = (s : Int) - (N : Int) - 1 from IntWalk.i64_in _ (by omega))
    have SZ := Lib.hid S2.out.pad.pad.pad
    clear ho k1 k2 k3 k4 hin hbr hbot hL1 hL2 S2
    go_upto_region 8 with (fail)
    refine wp_region_stage (w0 := w) (os := []) (by kernel_rfl) (by kernel_rfl) (by kernel_rfl) [(0, 1, [1], fun vs => .grid (blkOf (vs 1)) 37 ↑s L0), (1, 4, [4], fun vs => .box (blkOf (vs 4)) 50 #[.int .i64 0, .int .i64 0, .int .i64 0, .int .i64 0, .bool false, .int .i64 0, .int .i64 0, .int .i64 0, .int .u8 0, .int .u8 0, .int .u8 0, .int .u8 0, .int .i64 0, .int .u8 0, .int .u8 0, .int .u8 0, .int .u8 0, .int .u8 0]), (2, 5, [5], fun vs => .box (blkOf (vs 5)) 50 #[.int .i64 0, .int .i64 0, .int .i64 0, .int .i64 0, .bool false, .int .i64 0, .int .i64 0, .int .i64 0, .int .u8 0, .int .u8 0, .int .u8 0, .int .u8 0, .int .i64 0, .int .u8 0, .int .u8 0, .int .u8 0, .int .u8 0, .int .u8 0]), (0, 6, [6], fun vs => .grid (blkOf (vs 6)) 37 ↑s L0), (1, 7, [4], fun vs => .box (blkOf (vs 4)) 50 (av18 ⟨wh, ↑N, ↑y, ↑j, pend, top, bot, q⟩)), (2, 8, [5], fun vs => .box (blkOf (vs 5)) 50 (av18 ⟨wh, ↑N, ↑y, ↑j, pend, top, bot, q⟩))] [[], [0, 3], [5], [5], [1], [2], [0], [1], [2]] [.none, .none, .none, .grid p 37 ↑s L0, .grid x 63 ↑s L0, .box b10 50 (av18 ⟨wh, ↑N, ↑y, ↑j, pend, top, bot, q⟩)] (fun i u => match i with | 0 => u = (.pointer (some ⟨p, 0, none⟩) : Value) | 1 => ∃ g, u = .pointer (some ⟨g, 0, none⟩) | 2 => u = (.agg (av18 ⟨wh, ↑N, ↑y, ↑j, pend, top, bot, q⟩) : Value) | 3 => u = (.agg (av18 ⟨wh, ↑N, ↑y, ↑j, pend, top, bot, q⟩) : Value) | 4 => ∃ g, u = .pointer (some ⟨g, 0, none⟩) | 5 => ∃ g, u = .pointer (some ⟨g, 0, none⟩) | 6 => ∃ g, u = .pointer (some ⟨g, 0, none⟩) | 7 => True | 8 => True | _ => True) (fun vs => [.grid (blkOf (vs 6)) 37 ↑s L0, .box (blkOf (vs 4)) 50 (av18 ⟨wh, ↑N, ↑y, ↑j, pend, top, bot, q⟩), .box (blkOf (vs 5)) 50 (av18 ⟨wh, ↑N, ↑y, ↑j, pend, top, bot, q⟩), .grid p 37 ↑s L0, .grid x 63 ↑s L0, .box b10 50 (av18 ⟨wh, ↑N, ↑y, ↑j, pend, top, bot, q⟩)]) (by kernel_rfl) (fun vs => by rfl) SZ.out ?_ ?_
    · refine SSteps.cons (fun a w' vs σ hS hl hs hk => ?_) ?_
      · have e13 : a.tmps.getD 13 undef = (.pointer (some ⟨p, 0, none⟩) : Value) := (sk_old hk 13 (by kernel_rfl)).trans rfl
        have f13 := gd e13
        exact ro_pure (v := .pointer (some ⟨p, 0, none⟩)) (wanted_none rfl) (by simp [execOp, Act.eval, e13, f13, go_sem]) (sp_same (by kernel_rfl) hl hs hS (show (.pointer (some ⟨p, 0, none⟩) : Value) = _ from rfl)) trivial
      refine SSteps.cons (fun a w' vs σ hS hl hs hk => ?_) ?_
      · have e71 : a.tmps.getD 71 undef = (.pointer (some ⟨p, 0, none⟩) : Value) := (sk_val hk 0 (by kernel_rfl) rfl rfl).trans ((hk.1 0 (by kernel_rfl)).1)
        have f71 := gd e71
        have h3 : σ[3]? = some (.grid p 37 ↑s L0) := hs 3 (by decide)
        have hn : σ[0]? = some .none := hs 0 (by decide)
        exact ro_call (f := 31) (wanted_none rfl) rfl (by simp only [List.map_toArray, List.map_cons, List.map_nil, Act.eval, e71] <;> rfl) (fun _ _ => by kernel_rfl) ((CopyG hS (sg h3) hc0 hcm0 HR0.out hLm0).mono fun e w2 ⟨g, h1, h2⟩ => ⟨_, h1, sp_set 0 (.grid g 37 ↑s L0) (by kernel_rfl) (by simp) (by decide) hl hs (by rfl) (h2.place (sg hn)) ⟨g, rfl⟩, trivial⟩)
      refine SSteps.cons (fun a w' vs σ hS hl hs hk => ?_) ?_
      · have e10 : a.tmps.getD 10 undef = (.pointer (some ⟨b10, 0, none⟩) : Value) := (sk_old hk 10 (by kernel_rfl)).trans rfl
        have f10 := gd e10
        have hx := (hS.box (sg (hs 5 (by decide)))).recAt 18 (av18_size _)
        exact ro_pure (v := .agg (av18 ⟨wh, ↑N, ↑y, ↑j, pend, top, bot, q⟩)) (wanted_none rfl) (by simp [execOp, Act.eval, e10, f10, go_sem, hx]) (sp_same (by kernel_rfl) hl hs hS (show (.agg (av18 ⟨wh, ↑N, ↑y, ↑j, pend, top, bot, q⟩) : Value) = _ from rfl)) trivial
      refine SSteps.cons (fun a w' vs σ hS hl hs hk => ?_) ?_
      · have e10 : a.tmps.getD 10 undef = (.pointer (some ⟨b10, 0, none⟩) : Value) := (sk_old hk 10 (by kernel_rfl)).trans rfl
        have f10 := gd e10
        have hx := (hS.box (sg (hs 5 (by decide)))).recAt 18 (av18_size _)
        exact ro_pure (v := .agg (av18 ⟨wh, ↑N, ↑y, ↑j, pend, top, bot, q⟩)) (wanted_none rfl) (by simp [execOp, Act.eval, e10, f10, go_sem, hx]) (sp_same (by kernel_rfl) hl hs hS (show (.agg (av18 ⟨wh, ↑N, ↑y, ↑j, pend, top, bot, q⟩) : Value) = _ from rfl)) trivial
      refine SSteps.cons (fun a w' vs σ hS hl hs hk => ?_) ?_
      · have h1 : σ[1]? = some .none := hs 1 (by decide)
        exact rs_run (v' := .pointer (some ⟨w'.heap.size, 0, none⟩)) (w' := w'.alloc (.cells #[.int .i64 0, .int .i64 0, .int .i64 0, .int .i64 0, .bool false, .int .i64 0, .int .i64 0, .int .i64 0, .int .u8 0, .int .u8 0, .int .u8 0, .int .u8 0, .int .i64 0, .int .u8 0, .int .u8 0, .int .u8 0, .int .u8 0, .int .u8 0] 50)) (wanted_none rfl) (by simp [execOp, go_sem]) (sp_set 1 (.box w'.heap.size 50 #[.int .i64 0, .int .i64 0, .int .i64 0, .int .i64 0, .bool false, .int .i64 0, .int .i64 0, .int .i64 0, .int .u8 0, .int .u8 0, .int .u8 0, .int .u8 0, .int .i64 0, .int .u8 0, .int .u8 0, .int .u8 0, .int .u8 0, .int .u8 0]) (by kernel_rfl) (by simp) (by decide) hl hs (by rfl) (hS.alloc1.place (sg h1)) ⟨_, rfl⟩)
      refine SSteps.cons (fun a w' vs σ hS hl hs hk => ?_) ?_
      · have h1 : σ[2]? = some .none := hs 2 (by decide)
        exact rs_run (v' := .pointer (some ⟨w'.heap.size, 0, none⟩)) (w' := w'.alloc (.cells #[.int .i64 0, .int .i64 0, .int .i64 0, .int .i64 0, .bool false, .int .i64 0, .int .i64 0, .int .i64 0, .int .u8 0, .int .u8 0, .int .u8 0, .int .u8 0, .int .i64 0, .int .u8 0, .int .u8 0, .int .u8 0, .int .u8 0, .int .u8 0] 50)) (wanted_none rfl) (by simp [execOp, go_sem]) (sp_set 2 (.box w'.heap.size 50 #[.int .i64 0, .int .i64 0, .int .i64 0, .int .i64 0, .bool false, .int .i64 0, .int .i64 0, .int .i64 0, .int .u8 0, .int .u8 0, .int .u8 0, .int .u8 0, .int .i64 0, .int .u8 0, .int .u8 0, .int .u8 0, .int .u8 0, .int .u8 0]) (by kernel_rfl) (by simp) (by decide) hl hs (by rfl) (hS.alloc1.place (sg h1)) ⟨_, rfl⟩)
      refine SSteps.cons (fun a w' vs σ hS hl hs hk => ?_) ?_
      · have e72 : a.tmps.getD 72 undef = vs 1 := sk_val hk 1 (by kernel_rfl) rfl rfl
        have p72 : (fun u : Value => ∃ g, u = .pointer (some ⟨g, 0, none⟩)) (vs 1) := (hk.1 1 (by kernel_rfl)).1
        have f72 := gd e72
        obtain ⟨g9, q9⟩ := p72
        have e9 := e72.trans q9
        have f9 := gd e9
        have h2 : σ[0]? = some (.grid (blkOf (vs 1)) 37 ↑s L0) := hs 0 (by decide)
        rw [q9, show blkOf (.pointer (some ⟨g9, 0, none⟩)) = g9 from rfl] at h2
        have hSS : Objs w w' ((σ ++ []).set 0 (.grid g9 37 ↑s L0)) := by rw [set_self (sg h2)]; exact hS
        exact rs_run (v' := .pointer (some ⟨g9, 0, none⟩)) (w' := w') (wanted_none rfl) (by simp [execOp, Act.eval, e9, f9, go_sem]) (sp_set 0 (.grid g9 37 ↑s L0) (by kernel_rfl) (by simp) (by decide) hl hs (by rfl) hSS ⟨g9, rfl⟩)
      refine SSteps.cons (fun a w' vs σ hS hl hs hk => ?_) ?_
      · have e16 : a.tmps.getD 16 undef = vs 4 := sk_val hk 4 (by kernel_rfl) rfl rfl
        have p16 : (fun u : Value => ∃ g, u = .pointer (some ⟨g, 0, none⟩)) (vs 4) := (hk.1 4 (by kernel_rfl)).1
        have f16 := gd e16
        have e73 : a.tmps.getD 73 undef = (.agg (av18 ⟨wh, ↑N, ↑y, ↑j, pend, top, bot, q⟩) : Value) := (sk_val hk 2 (by kernel_rfl) rfl rfl).trans ((hk.1 2 (by kernel_rfl)).1)
        have f73 := gd e73
        obtain ⟨g9, q9⟩ := p16
        have h1 : σ[1]? = some (.box (blkOf (vs 4)) 50 #[.int .i64 0, .int .i64 0, .int .i64 0, .int .i64 0, .bool false, .int .i64 0, .int .i64 0, .int .i64 0, .int .u8 0, .int .u8 0, .int .u8 0, .int .u8 0, .int .i64 0, .int .u8 0, .int .u8 0, .int .u8 0, .int .u8 0, .int .u8 0]) := hs 1 (by decide)
        rw [q9, show blkOf (.pointer (some ⟨g9, 0, none⟩)) = g9 from rfl] at h1
        have hst := store_recE (P := Tryd.prog) w' g9 50 _ (av18 ⟨wh, ↑N, ↑y, ↑j, pend, top, bot, q⟩) (hS.box (sg h1)) (by rw [av18_size]; rfl) (av18_one _)
        exact rstep_store (w2 := w'.setRow g9 (av18 ⟨wh, ↑N, ↑y, ↑j, pend, top, bot, q⟩)) (wanted_none rfl) rfl (by simp [execOp, Act.eval, e16, f16, e73, f73, q9, hst, go_sem]) (sp_set 1 (.box g9 50 (av18 ⟨wh, ↑N, ↑y, ↑j, pend, top, bot, q⟩)) (by kernel_rfl) (by simp) (by decide) hl hs (by show Ob.box (blkOf (vs 4)) 50 _ = _; rw [q9]; rfl) (hS.rowBox 1 (sg h1)) trivial) trivial
      refine SSteps.cons (fun a w' vs σ hS hl hs hk => ?_) ?_
      · have e17 : a.tmps.getD 17 undef = vs 5 := sk_val hk 5 (by kernel_rfl) rfl rfl
        have p17 : (fun u : Value => ∃ g, u = .pointer (some ⟨g, 0, none⟩)) (vs 5) := (hk.1 5 (by kernel_rfl)).1
        have f17 := gd e17
        have e74 : a.tmps.getD 74 undef = (.agg (av18 ⟨wh, ↑N, ↑y, ↑j, pend, top, bot, q⟩) : Value) := (sk_val hk 3 (by kernel_rfl) rfl rfl).trans ((hk.1 3 (by kernel_rfl)).1)
        have f74 := gd e74
        obtain ⟨g9, q9⟩ := p17
        have h1 : σ[2]? = some (.box (blkOf (vs 5)) 50 #[.int .i64 0, .int .i64 0, .int .i64 0, .int .i64 0, .bool false, .int .i64 0, .int .i64 0, .int .i64 0, .int .u8 0, .int .u8 0, .int .u8 0, .int .u8 0, .int .i64 0, .int .u8 0, .int .u8 0, .int .u8 0, .int .u8 0, .int .u8 0]) := hs 2 (by decide)
        rw [q9, show blkOf (.pointer (some ⟨g9, 0, none⟩)) = g9 from rfl] at h1
        have hst := store_recE (P := Tryd.prog) w' g9 50 _ (av18 ⟨wh, ↑N, ↑y, ↑j, pend, top, bot, q⟩) (hS.box (sg h1)) (by rw [av18_size]; rfl) (av18_one _)
        exact rstep_store (w2 := w'.setRow g9 (av18 ⟨wh, ↑N, ↑y, ↑j, pend, top, bot, q⟩)) (wanted_none rfl) rfl (by simp [execOp, Act.eval, e17, f17, e74, f74, q9, hst, go_sem]) (sp_set 2 (.box g9 50 (av18 ⟨wh, ↑N, ↑y, ↑j, pend, top, bot, q⟩)) (by kernel_rfl) (by simp) (by decide) hl hs (by show Ob.box (blkOf (vs 5)) 50 _ = _; rw [q9]; rfl) (hS.rowBox 2 (sg h1)) trivial) trivial
      exact SSteps.nil
    · intro vs w' hS hv
      have q0 := (show vs 0 = (.pointer (some ⟨p, 0, none⟩) : Value) from hv 0 (by decide))
      have q2 := (show vs 2 = (.agg (av18 ⟨wh, ↑N, ↑y, ↑j, pend, top, bot, q⟩) : Value) from hv 2 (by decide))
      have q3 := (show vs 3 = (.agg (av18 ⟨wh, ↑N, ↑y, ↑j, pend, top, bot, q⟩) : Value) from hv 3 (by decide))
      obtain ⟨pa, qa⟩ := (show ∃ g, vs 6 = .pointer (some ⟨g, 0, none⟩) from hv 6 (by decide))
      obtain ⟨pa1, qa1⟩ := (show ∃ g, vs 1 = .pointer (some ⟨g, 0, none⟩) from hv 1 (by decide))
      obtain ⟨b16, q16⟩ := (show ∃ g, vs 4 = .pointer (some ⟨g, 0, none⟩) from hv 4 (by decide))
      obtain ⟨b17, q17⟩ := (show ∃ g, vs 5 = .pointer (some ⟨g, 0, none⟩) from hv 5 (by decide))
      rw [qa, q16, q17] at hS
      have S2 := Lib.hid hS
      simp only [putL, Act.put, Nat.zero_add, Nat.reduceAdd, List.setIfInBounds_toArray, List.set_cons_succ, List.set_cons_zero, q0, q2, q3]
      clear hS hv q0 q2 q3
      simp only [qa, qa1, q16, q17]
      clear qa qa1 q16 q17 SZ
      have SZ := Lib.hid (show Objs w w' [.grid pa 37 ↑s L0, .box b16 50 (av18 ⟨wh, ↑N, ↑y, ↑j, pend, top, bot, q⟩), .box b17 50 (av18 ⟨wh, ↑N, ↑y, ↑j, pend, top, bot, q⟩), .grid p 37 ↑s L0, .grid x 63 ↑s L0, .box b10 50 (av18 ⟨wh, ↑N, ↑y, ↑j, pend, top, bot, q⟩)] from S2.out)
      clear S2
      go_upto_region 9 with (fail)
      refine wp_region_stage (w0 := w) (os := []) (by kernel_rfl) (by kernel_rfl) (by kernel_rfl) [(1, 8, [], fun vs => .box b16 50 (av18 ⟨wh, ↑m, ↑y, ↑j, pend, top, bot, q⟩)), (2, 10, [], fun vs => .box b17 50 (av18 ⟨wh, ↑N + ↑m, ↑y, ↑j, pend, top, bot, q⟩))] [[], [], [], [5], [], [], [], [], [1], [], [2]] [.grid pa 37 ↑s L0, .box b16 50 (av18 ⟨wh, ↑N, ↑y, ↑j, pend, top, bot, q⟩), .box b17 50 (av18 ⟨wh, ↑N, ↑y, ↑j, pend, top, bot, q⟩), .grid p 37 ↑s L0, .grid x 63 ↑s L0, .box b10 50 (av18 ⟨wh, ↑N, ↑y, ↑j, pend, top, bot, q⟩)] (fun i u => match i with | 0 => u = (.int .u8 ↑m : Value) | 1 => u = (.int .i64 ↑m : Value) | 2 => u = (.pointer (some ⟨b10, 1, none⟩) : Value) | 3 => u = (.int .i64 ↑N : Value) | 4 => u = (.int .u8 ↑m : Value) | 5 => u = (.int .i64 ↑m : Value) | 6 => u = (.int .i64 (↑N + ↑m) : Value) | 7 => u = (.pointer (some ⟨b16, 1, none⟩) : Value) | 8 => True | 9 => u = (.pointer (some ⟨b17, 1, none⟩) : Value) | 10 => True | _ => True) (fun vs => [.grid pa 37 ↑s L0, .box b16 50 (av18 ⟨wh, ↑m, ↑y, ↑j, pend, top, bot, q⟩), .box b17 50 (av18 ⟨wh, ↑N + ↑m, ↑y, ↑j, pend, top, bot, q⟩), .grid p 37 ↑s L0, .grid x 63 ↑s L0, .box b10 50 (av18 ⟨wh, ↑N, ↑y, ↑j, pend, top, bot, q⟩)]) (by kernel_rfl) (fun vs => by rfl) SZ.out ?_ ?_
      · refine SSteps.cons (fun a w' vs σ hS hl hs hk => ?_) ?_
        · have e5 : a.tmps.getD 5 undef = (.int .u8 ↑m : Value) := (sk_old hk 5 (by kernel_rfl)).trans rfl
          have f5 := gd e5
          exact ro_pure (v := .int .u8 ↑m) (wanted_none rfl) (by simp [execOp, Act.eval, e5, f5, go_sem]) (sp_same (by kernel_rfl) hl hs hS (show (.int .u8 ↑m : Value) = _ from rfl)) trivial
        refine SSteps.cons (fun a w' vs σ hS hl hs hk => ?_) ?_
        · have e75 : a.tmps.getD 75 undef = (.int .u8 ↑m : Value) := (sk_val hk 0 (by kernel_rfl) rfl rfl).trans ((hk.1 0 (by kernel_rfl)).1)
          have f75 := gd e75
          exact ro_pure (v := .int .i64 ↑m) (wanted_none rfl) (by simp [execOp, Act.eval, e75, f75, go_sem, HWM.out]) (sp_same (by kernel_rfl) hl hs hS (show (.int .i64 ↑m : Value) = _ from rfl)) trivial
        refine SSteps.cons (fun a w' vs σ hS hl hs hk => ?_) ?_
        · have e10 : a.tmps.getD 10 undef = (.pointer (some ⟨b10, 0, none⟩) : Value) := (sk_old hk 10 (by kernel_rfl)).trans rfl
          have f10 := gd e10
          exact ro_pure (v := .pointer (some ⟨b10, 1, none⟩)) (wanted_none rfl) (by simp [execOp, Act.eval, e10, f10, go_sem]) (sp_same (by kernel_rfl) hl hs hS (show (.pointer (some ⟨b10, 1, none⟩) : Value) = _ from rfl)) trivial
        refine SSteps.cons (fun a w' vs σ hS hl hs hk => ?_) ?_
        · have e77 : a.tmps.getD 77 undef = (.pointer (some ⟨b10, 1, none⟩) : Value) := (sk_val hk 2 (by kernel_rfl) rfl rfl).trans ((hk.1 2 (by kernel_rfl)).1)
          have f77 := gd e77
          have hx := (hS.box (sg (hs 5 (by decide)))).cell
          exact ro_pure (v := .int .i64 ↑N) (wanted_none rfl) (by simp [execOp, Act.eval, e77, f77, go_sem, hx]) (sp_same (by kernel_rfl) hl hs hS (show (.int .i64 ↑N : Value) = _ from rfl)) trivial
        refine SSteps.cons (fun a w' vs σ hS hl hs hk => ?_) ?_
        · have e5 : a.tmps.getD 5 undef = (.int .u8 ↑m : Value) := (sk_old hk 5 (by kernel_rfl)).trans rfl
          have f5 := gd e5
          exact ro_pure (v := .int .u8 ↑m) (wanted_none rfl) (by simp [execOp, Act.eval, e5, f5, go_sem]) (sp_same (by kernel_rfl) hl hs hS (show (.int .u8 ↑m : Value) = _ from rfl)) trivial
        refine SSteps.cons (fun a w' vs σ hS hl hs hk => ?_) ?_
        · have e79 : a.tmps.getD 79 undef = (.int .u8 ↑m : Value) := (sk_val hk 4 (by kernel_rfl) rfl rfl).trans ((hk.1 4 (by kernel_rfl)).1)
          have f79 := gd e79
          exact ro_pure (v := .int .i64 ↑m) (wanted_none rfl) (by simp [execOp, Act.eval, e79, f79, go_sem, HWM.out]) (sp_same (by kernel_rfl) hl hs hS (show (.int .i64 ↑m : Value) = _ from rfl)) trivial
        refine SSteps.cons (fun a w' vs σ hS hl hs hk => ?_) ?_
        · have e78 : a.tmps.getD 78 undef = (.int .i64 ↑N : Value) := (sk_val hk 3 (by kernel_rfl) rfl rfl).trans ((hk.1 3 (by kernel_rfl)).1)
          have f78 := gd e78
          have e80 : a.tmps.getD 80 undef = (.int .i64 ↑m : Value) := (sk_val hk 5 (by kernel_rfl) rfl rfl).trans ((hk.1 5 (by kernel_rfl)).1)
          have f80 := gd e80
          exact ro_pure (v := .int .i64 (↑N + ↑m)) (wanted_none rfl) (by simp [execOp, Act.eval, e78, f78, e80, f80, go_sem, HWA.out]) (sp_same (by kernel_rfl) hl hs hS (show (.int .i64 (↑N + ↑m) : Value) = _ from rfl)) trivial
        refine SSteps.cons (fun a w' vs σ hS hl hs hk => ?_) ?_
        · have e16 : a.tmps.getD 16 undef = (.pointer (some ⟨b16, 0, none⟩) : Value) := (sk_old hk 16 (by kernel_rfl)).trans rfl
          have f16 := gd e16
          exact ro_pure (v := .pointer (some ⟨b16, 1, none⟩)) (wanted_none rfl) (by simp [execOp, Act.eval, e16, f16, go_sem]) (sp_same (by kernel_rfl) hl hs hS (show (.pointer (some ⟨b16, 1, none⟩) : Value) = _ from rfl)) trivial
        refine SSteps.cons (fun a w' vs σ hS hl hs hk => ?_) ?_
        · have e82 : a.tmps.getD 82 undef = (.pointer (some ⟨b16, 1, none⟩) : Value) := (sk_val hk 7 (by kernel_rfl) rfl rfl).trans ((hk.1 7 (by kernel_rfl)).1)
          have f82 := gd e82
          have e76 : a.tmps.getD 76 undef = (.int .i64 ↑m : Value) := (sk_val hk 1 (by kernel_rfl) rfl rfl).trans ((hk.1 1 (by kernel_rfl)).1)
          have f76 := gd e76
          have h1 : σ[1]? = some (.box b16 50 (av18 ⟨wh, ↑N, ↑y, ↑j, pend, top, bot, q⟩)) := hs 1 (by decide)
          obtain ⟨hx, hf, hz⟩ := (hS.box (sg h1)).facts
          have hsb := hS.setBox 1 (i := 1) (u := .int .i64 ↑m) (sg h1)
          rw [av18_set1] at hsb
          exact rstep_store (w2 := w'.setCell ⟨b16, 1, none⟩ (.int .i64 ↑m)) (wanted_none rfl) rfl (by simp [execOp, Act.eval, e82, f82, e76, f76, hx, hf, hz, go_sem]) (sp_set 1 (.box b16 50 (av18 ⟨wh, ↑m, ↑y, ↑j, pend, top, bot, q⟩)) (by kernel_rfl) (by simp) (by decide) hl hs (by rfl) hsb trivial) trivial
        refine SSteps.cons (fun a w' vs σ hS hl hs hk => ?_) ?_
        · have e17 : a.tmps.getD 17 undef = (.pointer (some ⟨b17, 0, none⟩) : Value) := (sk_old hk 17 (by kernel_rfl)).trans rfl
          have f17 := gd e17
          exact ro_pure (v := .pointer (some ⟨b17, 1, none⟩)) (wanted_none rfl) (by simp [execOp, Act.eval, e17, f17, go_sem]) (sp_same (by kernel_rfl) hl hs hS (show (.pointer (some ⟨b17, 1, none⟩) : Value) = _ from rfl)) trivial
        refine SSteps.cons (fun a w' vs σ hS hl hs hk => ?_) ?_
        · have e83 : a.tmps.getD 83 undef = (.pointer (some ⟨b17, 1, none⟩) : Value) := (sk_val hk 9 (by kernel_rfl) rfl rfl).trans ((hk.1 9 (by kernel_rfl)).1)
          have f83 := gd e83
          have e81 : a.tmps.getD 81 undef = (.int .i64 (↑N + ↑m) : Value) := (sk_val hk 6 (by kernel_rfl) rfl rfl).trans ((hk.1 6 (by kernel_rfl)).1)
          have f81 := gd e81
          have h1 : σ[2]? = some (.box b17 50 (av18 ⟨wh, ↑N, ↑y, ↑j, pend, top, bot, q⟩)) := hs 2 (by decide)
          obtain ⟨hx, hf, hz⟩ := (hS.box (sg h1)).facts
          have hsb := hS.setBox 2 (i := 1) (u := .int .i64 (↑N + ↑m)) (sg h1)
          rw [av18_set1] at hsb
          exact rstep_store (w2 := w'.setCell ⟨b17, 1, none⟩ (.int .i64 (↑N + ↑m))) (wanted_none rfl) rfl (by simp [execOp, Act.eval, e83, f83, e81, f81, hx, hf, hz, go_sem]) (sp_set 2 (.box b17 50 (av18 ⟨wh, ↑N + ↑m, ↑y, ↑j, pend, top, bot, q⟩)) (by kernel_rfl) (by simp) (by decide) hl hs (by rfl) hsb trivial) trivial
        exact SSteps.nil
      · intro vs w' hS hv
        have q0 := (show vs 0 = (.int .u8 ↑m : Value) from hv 0 (by decide))
        have q1 := (show vs 1 = (.int .i64 ↑m : Value) from hv 1 (by decide))
        have q2 := (show vs 2 = (.pointer (some ⟨b10, 1, none⟩) : Value) from hv 2 (by decide))
        have q3 := (show vs 3 = (.int .i64 ↑N : Value) from hv 3 (by decide))
        have q4 := (show vs 4 = (.int .u8 ↑m : Value) from hv 4 (by decide))
        have q5 := (show vs 5 = (.int .i64 ↑m : Value) from hv 5 (by decide))
        have q6 := (show vs 6 = (.int .i64 (↑N + ↑m) : Value) from hv 6 (by decide))
        have q7 := (show vs 7 = (.pointer (some ⟨b16, 1, none⟩) : Value) from hv 7 (by decide))
        have q9 := (show vs 9 = (.pointer (some ⟨b17, 1, none⟩) : Value) from hv 9 (by decide))
        have S2 := Lib.hid hS
        simp only [putL, Act.put, Nat.zero_add, Nat.reduceAdd, List.setIfInBounds_toArray, List.set_cons_succ, List.set_cons_zero, q0, q1, q2, q3, q4, q5, q6, q7, q9]
        clear hS hv q0 q1 q2 q3 q4 q5 q6 q7 q9
        clear SZ
        have T0 := Lib.hid (show Objs w w' [.grid pa 37 ↑s L0, .box b16 50 (av18 ⟨wh, ↑m, ↑y, ↑j, pend, top, bot, q⟩), .box b17 50 (av18 ⟨wh, ↑N + ↑m, ↑y, ↑j, pend, top, bot, q⟩), .grid p 37 ↑s L0, .grid x 63 ↑s L0, .box b10 50 (av18 ⟨wh, ↑N, ↑y, ↑j, pend, top, bot, q⟩)] from S2.out)
        clear S2
        go_wp2_with fail
        refine (CopyG T0.out (k := 3) rfl hc0 hcm0 HR0.out hLm0).mono ?_
        rintro e w5 ⟨ph, rfl, hS⟩
        have T1 := Lib.hid hS
        clear hS T0
        obtain ⟨hx10, hf10, hz10, hr10, hp10⟩ := (T1.out.box (k := 6) rfl).act18
        go_wp2_with fail
        have hcon := l18call_yes ⟨wh, ↑N, ↑y, ↑j, pend, top, bot, q⟩ HT.out T1.out (k := 1) rfl hcm0 HR0.out hLm5 HO.out (by simp only; omega)
        rw [HL1E.out] at hcon
        refine hcon.mono ?_
        clear hcon
        rintro e w6 ⟨rfl, hS⟩
        have T2 := Lib.hid (show Objs w w6 [.grid ph 37 ↑s L0, .grid pa 37 ↑s L1, .box b16 50 (av18 ⟨wh, ↑m, ↑y, ↑j, pend, top, bot, q⟩), .box b17 50 (av18 ⟨wh, ↑N + ↑m, ↑y, ↑j, pend, top, bot, q⟩), .grid p 37 ↑s L0, .grid x 63 ↑s L0, .box b10 50 (av18 ⟨wh, ↑N, ↑y, ↑j, pend, top, bot, q⟩)] from hS)
        clear hS T1
        clear hx10 hf10 hz10 hr10 hp10
        go_wp2_with fail
        refine (Lines_any T2.out (k := 1) rfl hc0 (HRL1.out.1.mill hcm0) (by rw [HRL1.out.2]; exact hLm0)).mono ?_
        rintro e w7 ⟨v19, rfl, hS⟩
        obtain ⟨Av, cvl, rfl, hmv, hrv⟩ := hS.linesRd (k := 0) rfl
        obtain ⟨gv, ov, A9, c9, rfl, -, -, -, -⟩ := hrv.at_ (i := 0) (List.getElem?_eq_getElem (show 0 < L1.length by rw [HRL1.out.2]; exact hL0))
        rw [show L1.length = rr from HRL1.out.2.trans hlen0] at hS ⊢
        have T3 := Lib.hid hS
        clear hS hrv hmv T2
        obtain ⟨hx16, hf16, hz16, hr16, hp16⟩ := (T3.out.box (k := 3) rfl).act18
        go_wp2_with fail
        have hcon := l18call_yes ⟨wh, ↑m, ↑y, ↑j, pend, top, bot, q⟩ HT.out T3.out (k := 2) rfl hcm0 HRL1.out.1 (by rw [HRL1.out.2]; exact hLm5) HO2.out (by simp only; omega)
        rw [HL2E.out] at hcon
        refine hcon.mono ?_
        clear hcon
        rintro e w8 ⟨rfl, hS⟩
        clear hx16 hf16 hz16 hr16 hp16 T3
        have T3 := Lib.hid (show Objs w w8 (.lines (.slice (some ⟨gv, ov, none⟩) rr cvl) L1 :: [.grid ph 37 ↑s L0, .grid pa 37 ↑s L2, .box b16 50 (av18 ⟨wh, ↑m, ↑y, ↑j, pend, top, bot, q⟩), .box b17 50 (av18 ⟨wh, ↑N + ↑m, ↑y, ↑j, pend, top, bot, q⟩), .grid p 37 ↑s L0, .grid x 63 ↑s L0, .box b10 50 (av18 ⟨wh, ↑N, ↑y, ↑j, pend, top, bot, q⟩)]) from hS)
        clear hS
        obtain ⟨hx17, hf17, hz17, hr17, hp17⟩ := (T3.out.box (k := 4) rfl).act18
        go_wp2_with fail
        have hcon := l18call_yes ⟨wh, ↑N + ↑m, ↑y, ↑j, pend, top, bot, q⟩ HT.out T3.out (k := 1) rfl hcm0 HR0.out hLm5 HO3.out (by simp only; omega)
        rw [HL3X.out] at hcon
        refine hcon.mono ?_
        clear hcon
        rintro e w9 ⟨rfl, hS⟩
        clear hx17 hf17 hz17 hr17 hp17 T3
        have T3 := Lib.hid (show Objs w w9 (.lines (.slice (some ⟨gv, ov, none⟩) rr cvl) L1 :: [.grid ph 37 ↑s L2, .grid pa 37 ↑s L2, .box b16 50 (av18 ⟨wh, ↑m, ↑y, ↑j, pend, top, bot, q⟩), .box b17 50 (av18 ⟨wh, ↑N + ↑m, ↑y, ↑j, pend, top, bot, q⟩), .grid p 37 ↑s L0, .grid x 63 ↑s L0, .box b10 50 (av18 ⟨wh, ↑N, ↑y, ↑j, pend, top, bot, q⟩)]) from hS)
        clear hS
        have hcs := Same_any T3.out (k1 := 2) (k2 := 1) rfl rfl hc0 hc0 (by rw [HRL2.out.2]; exact hLm0) (by rw [HRL2.out.2]; exact hLm0) (HRL2.out.1.mill hcm0) (HRL2.out.1.mill hcm0)
        simp only [decide_true, Bool.and_self] at hcs
        have HCS := Lib.hid hcs
        clear hcs
        go_wp2_with fail
        refine HCS.out.mono ?_
        rintro e w10 ⟨rfl, hS⟩
        have hS2 := ((((hS.del 1).del 1).del 1).del 1)
        have T4 := Lib.hid (show Objs w w10 [.lines (.slice (some ⟨gv, ov, none⟩) rr cvl) L1, .grid p 37 ↑s L0, .grid x 63 ↑s L0, .box b10 50 (av18 ⟨wh, ↑N, ↑y, ↑j, pend, top, bot, q⟩)] from hS2)
        clear hS hS2 T3 HCS
        go_wp2_with fail
        go_loopw [12, 20, 21, 22] (fun _ vr _ _ wr => ∃ r : Nat, r ≤ rr ∧ vr = .int .i64 r ∧ Objs w wr [.lines (.slice (some ⟨gv, ov, none⟩) rr cvl) L1, .grid p 37 ↑s L0, .grid x 63 ↑s L0, .box b10 50 (av18 ⟨wh, ↑N, ↑y, ↑j, pend, top, bot, q⟩)]) (fun _ vr _ _ _ => rr - (intOf vr).toNat)
        case atStart => exact ⟨0, by omega, rfl, T4.out⟩
        case round =>
          clear T4
          obtain ⟨r, hr, rfl, hS⟩ := hrel
          have T4 := Lib.hid hS
          clear hS
          by_cases hrt : r < rr
          case neg =>
            by_cases hz0 : wh = 0
            · subst hz0
              have HOB := Lib.hid (HOKN.out 1 N L1 HRL1.out.2 (by omega) (.inr (.inl rfl)))
              obtain ⟨L3, hL3⟩ : ∃ L3, L3 = act18L ⟨1, ↑N, ↑y, ↑j, pend, top, bot, q⟩ s L1 := ⟨_, rfl⟩
              have HRL3 := Lib.hid (show Rect s L3 ∧ L3.length = L0.length by have h := act18_rect HRL1.out.1 HOB.out; rw [hL3]; exact ⟨h.1, h.2.trans HRL1.out.2⟩)
              have HL3E := Lib.hid hL3.symm
              have HBACK := Lib.hid (show ∀ (r : Nat) (l0 l3 : Ln), L0[r]? = some l0 → L3[r]? = some l3 → ∀ i, i < s → (cAt l3.1 i = cAt l0.1 i ∨ (cAt l3.1 i).rune = 0) ∧ (¬ (r = y ∧ (s : Int) - N - 1 ≤ i) → ¬ (r = y ∧ (i = j ∨ i + 1 = j)) → cAt l3.1 i = cAt l0.1 i) from fun r l0 l3 h0 h3 i hi => by obtain ⟨l9, h1, h2⟩ := act18_back0 (a := N) (pend := pend) (top := top) (bot := bot) (q := q) (y := y) HR0.out hj h0 hi; rw [HL1E.out, ← hL3, h3] at h1; cases h1; exact h2)
              clear hL3
              as_aux_lemma =>
                have T7 := Lib.hid T4.out.tail
                clear T4
                obtain ⟨hx10, hf10, hz10, hr10, hp10⟩ := (T7.out.box (k := 2) rfl).act18
                go_upto_region 32 with (fail)
                refine at_objsC (T7.out.alloc1 (c1 := av18 ⟨0, ↑N, ↑y, ↑j, pend, top, bot, q⟩) (t1 := 50)) (fun W2 hW2 => ?_)
                clear hx10 hf10 hz10 hr10 hp10
                generalize hb23 : wr.heap.size = b23 at hW2 ⊢
                clear hb23
                obtain ⟨hx23, hf23, hz23, hr23, hp23⟩ := (hW2.box (k := 0) rfl).act18
                have hW3 := hW2.setBox 0 (i := 0) (u := .int .i64 1) rfl
                rw [av18_set0] at hW3
                have T8 := Lib.hid (show Objs w _ [.box b23 50 (av18 ⟨1, ↑N, ↑y, ↑j, pend, top, bot, q⟩), .grid p 37 ↑s L0, .grid x 63 ↑s L0, .box b10 50 (av18 ⟨0, ↑N, ↑y, ↑j, pend, top, bot, q⟩)] from hW3)
                clear hW2 hW3 T7
                go_upto_region 33 with (fail)
                refine at_objsC T8.out (fun W3 hW3 => ?_)
                clear hx23 hf23 hz23 hr23 hp23 T8
                have T8 := Lib.hid hW3
                clear hW3
                go_wp2_with fail
                refine (CopyG T8.out (k := 1) rfl hc0 hcm0 HR0.out hLm0).mono ?_
                rintro e w14 ⟨pk, rfl, hS⟩
                have T9 := Lib.hid hS
                clear hS T8
                obtain ⟨hx10, hf10, hz10, hr10, hp10⟩ := (T9.out.box (k := 4) rfl).act18
                go_wp2_with fail
                have hcon := l18call_yes ⟨0, ↑N, ↑y, ↑j, pend, top, bot, q⟩ HT.out T9.out (k := 0) rfl hcm0 HR0.out hLm5 HO.out (by simp only; omega)
                rw [HL1E.out] at hcon
                refine hcon.mono ?_
                clear hcon
                rintro e w15 ⟨rfl, hS⟩
                have TA := Lib.hid (show Objs w w15 [.grid pk 37 ↑s L1, .box b23 50 (av18 ⟨1, ↑N, ↑y, ↑j, pend, top, bot, q⟩), .grid p 37 ↑s L0, .grid x 63 ↑s L0, .box b10 50 (av18 ⟨0, ↑N, ↑y, ↑j, pend, top, bot, q⟩)] from hS)
                clear hS T9
                clear hx10 hf10 hz10 hr10 hp10
                obtain ⟨hx23, hf23, hz23, hr23, hp23⟩ := (TA.out.box (k := 1) rfl).act18
                go_wp2_with fail
                have hcon := l18call_yes ⟨1, ↑N, ↑y, ↑j, pend, top, bot, q⟩ HT.out TA.out (k := 0) rfl hcm0 HRL1.out.1 (by rw [HRL1.out.2]; exact hLm5) HOB.out (by simp only; omega)
                rw [HL3E.out] at hcon
                refine hcon.mono ?_
                clear hcon
                rintro e w16 ⟨rfl, hS⟩
                have TB := Lib.hid (show Objs w w16 [.grid pk 37 ↑s L3, .box b23 50 (av18 ⟨1, ↑N, ↑y, ↑j, pend, top, bot, q⟩), .grid p 37 ↑s L0, .grid x 63 ↑s L0, .box b10 50 (av18 ⟨0, ↑N, ↑y, ↑j, pend, top, bot, q⟩)] from hS)
                clear hS TA
                clear hx23 hf23 hz23 hr23 hp23
                go_wp2_with fail
                refine (Lines_any TB.out (k := 0) rfl hc0 (HRL3.out.1.mill hcm0) (by rw [HRL3.out.2]; exact hLm0)).mono ?_
                rintro e w17 ⟨v25, rfl, hS⟩
                obtain ⟨Aw, cwl, rfl, hmw, hrw⟩ := hS.linesRd (k := 0) rfl
                obtain ⟨gw, ow, A9, c9, rfl, -, -, -, -⟩ := hrw.at_ (i := 0) (List.getElem?_eq_getElem (show 0 < L3.length by rw [HRL3.out.2]; exact hL0))
                have hS2 := (((hS.del 1).del 1).del 1)
                rw [show L3.length = rr from HRL3.out.2.trans hlen0] at hS2 ⊢
                have T4 := Lib.hid (show Objs w w17 [.lines (.slice (some ⟨gw, ow, none⟩) rr cwl) L3, .grid x 63 ↑s L0, .box b10 50 (av18 ⟨0, ↑N, ↑y, ↑j, pend, top, bot, q⟩)] from hS2)
                clear hS hS2 TB hrw hmw
                go_wp2_with fail
                go_loopw [12, 26, 27, 28, 29, 30] (fun _ vr _ _ _ _ wr => ∃ r : Nat, r ≤ rr ∧ vr = .int .i64 r ∧ Objs w wr [.lines (.slice (some ⟨gw, ow, none⟩) rr cwl) L3, .grid x 63 ↑s L0, .box b10 50 (av18 ⟨0, ↑N, ↑y, ↑j, pend, top, bot, q⟩)]) (fun _ vr _ _ _ _ _ => rr - (intOf vr).toNat)
                case atStart => exact ⟨0, by omega, rfl, T4.out⟩
                case round =>
                  clear T4
                  obtain ⟨r, hr, rfl, hS⟩ := hrel
                  have T4 := Lib.hid hS
                  clear hS
                  by_cases hrt : r < rr
                  case neg =>
                    go_wp2_with fail
                    refine (l18known_any _ (T4.out.tabs HT.out)).mono ?_
                    rintro e wk ⟨rfl, hb⟩
                    have HB := Lib.hid (T4.out.bel hb).base
                    clear hb
                    go_wp2_with fail
                    go_ret
                    exact ⟨rfl, HB.out⟩
                  have hdr : decide ((r : Int) < rr) = true := decide_eq_true (by omega)
                  have hrL0 : r < L0.length := by omega
                  have hrL3 : r < L3.length := by rw [HRL3.out.2]; omega
                  obtain ⟨l0, hl0⟩ := get_of hrL0
                  obtain ⟨l3, hl3⟩ := get_of hrL3
                  have HL0 := Lib.hid hl0
                  have HL1 := Lib.hid hl3
                  have HN1 := Lib.hid (show l3.1.length = s from HRL3.out.1.at_ hl3)
                  have HN0 := Lib.hid (show l0.1.length = s from HR0.out.at_ hl0)
                  have hb1 : ((l3.1.length : Int) != (s : Int)) = false := by have := HN1.out; simp; omega
                  have hrl0 : (r : Int) < (rr : Int) := by omega
                  clear hl0 hl3 hrL0 hrL3
                  obtain ⟨hx10, hf10, hz10, hr10, hp10⟩ := (T4.out.box (k := 2) rfl).act18
                  obtain ⟨Ax, cx, hBx, hmx, hrx⟩ := T4.out.gridRd (k := 1) rfl
                  obtain ⟨hxx, hfx, hzx⟩ := hBx.facts
                  obtain ⟨bx, ox, A0, c0, rfl, hzr, hcx1, hcx2, hrd0⟩ := hrx.at_ HL0.out
                  have hrl := (T4.out.linesRd' (k := 0) rfl).2.2
                  obtain ⟨b9, o9, A1, c1, e9, hzl, hcl1, hcl2, hrd1⟩ := hrl.at_ HL1.out
                  cases e9
                  clear hBx hmx hrx hrl
                  clear hrd0 hrd1
                  go_wp2_with fail
                  go_loopw [12, 27, 28, 29, 30] (fun _ vc _ _ _ wr => ∃ cc : Nat, cc ≤ s ∧ vc = .int .i64 cc ∧ Objs w wr [.lines (.slice (some ⟨gw, ow, none⟩) rr cwl) L3, .grid x 63 ↑s L0, .box b10 50 (av18 ⟨0, ↑N, ↑y, ↑j, pend, top, bot, q⟩)]) (fun _ vc _ _ _ _ => s - (intOf vc).toNat)
                  case atStart => exact ⟨0, by omega, rfl, T4.out⟩
                  case round =>
                    clear hx10 hf10 hz10 hr10 hp10 hxx hfx hzx hzr hcx1 hcx2 hzl hcl1 hcl2 T4
                    obtain ⟨cc, hcc, rfl, hW⟩ := hrel
                    have T5 := Lib.hid hW
                    clear hW
                    by_cases hct : cc < s
                    case neg =>
                      go_wp2_with fail
                      go_roundw
                      case rel => exact ⟨r + 1, by omega, by go_num, T5.out⟩
                      case measure => simp [intOf]; omega
                    have hk1 : cc < l3.1.length := by rw [HN1.out]; exact hct
                    have hk0 : cc < l0.1.length := by rw [HN0.out]; exact hct
                    have HBK := Lib.hid (HBACK.out r l0 l3 HL0.out HL1.out cc hct)
                    rw [cAt_eq hk1, cAt_eq hk0] at HBK
                    obtain ⟨hx10, hf10, hz10, hr10, hp10⟩ := (T5.out.box (k := 2) rfl).act18
                    obtain ⟨Ax, cx, hBx, hmx, hrx⟩ := T5.out.gridRd (k := 1) rfl
                    obtain ⟨hxx, hfx, hzx⟩ := hBx.facts
                    obtain ⟨bx, ox, A0, c0, rfl, hzr, hcx1, hcx2, hrd0⟩ := hrx.at_ HL0.out
                    have hrl := (T5.out.linesRd' (k := 0) rfl).2.2
                    obtain ⟨b9, o9, A1, c1, e9, hzl, hcl1, hcl2, hrd1⟩ := hrl.at_ HL1.out
                    cases e9
                    clear hBx hmx hrx hrl
                    obtain ⟨bb1, oo1, rfl, hz1, hr1⟩ := hrd1.at_ hk1
                    obtain ⟨bb0, oo0, rfl, hz0, hr0⟩ := hrd0.at_ hk0
                    have hce1 := elem_cell hr1 hk1
                    have hce0 := elem_cell hr0 hk0
                    clear hrd0 hrd1 hr1 hr0
                    go_upto_region 48 with (fail)
                    refine at_objsC (T5.out.alloc1 (c1 := cv (l3.1[cc])) (t1 := 82)) (fun W5 hW5 => ?_)
                    clear T5
                    have T5 := Lib.hid hW5
                    generalize hb28 : wr.heap.size = b28 at T5 ⊢
                    clear hb28 hW5
                    clear hx10 hf10 hz10 hr10 hp10 hxx hfx hzx hzr hcx1 hcx2 hzl hcl1 hcl2 hz1 hce1 hz0 hce0
                    obtain ⟨hx28, hf28, hz28, hc281, hc282⟩ := (T5.out.box (k := 0) rfl).box
                    obtain ⟨hx10, hf10, hz10, hr10, hp10⟩ := (T5.out.box (k := 3) rfl).act18
                    obtain ⟨Ax, cx, hBx, hmx, hrx⟩ := T5.out.gridRd (k := 2) rfl
                    obtain ⟨hxx, hfx, hzx⟩ := hBx.facts
                    obtain ⟨bx, ox, A0, c0, rfl, hzr, hcx1, hcx2, hrd0⟩ := hrx.at_ HL0.out
                    have hrl := (T5.out.linesRd' (k := 1) rfl).2.2
                    obtain ⟨b9, o9, A1, c1, e9, hzl, hcl1, hcl2, hrd1⟩ := hrl.at_ HL1.out
                    cases e9
                    clear hBx hmx hrx hrl
                    obtain ⟨bb1, oo1, rfl, hz1, hr1⟩ := hrd1.at_ hk1
                    obtain ⟨bb0, oo0, rfl, hz0, hr0⟩ := hrd0.at_ hk0
                    have hce1 := elem_cell hr1 hk1
                    have hce0 := elem_cell hr0 hk0
                    clear hrd0 hrd1 hr1 hr0
                    by_cases hry : r = y
                    case neg =>
                      have he : ((r : Int) == (y : Int)) = false := by rw [beq_eq_false_iff_ne]; omega
                      have HQ := Lib.hid (show l3.1[cc] = l0.1[cc] from HBK.out.2 (fun h => hry h.1) (fun h => hry h.1))
                      as_aux_lemma =>
                        have hv := HQ.out
                        rw [hv] at hce1 hc281 hc282
                        refine wp_region_below (by kernel_rfl) (by kernel_rfl) ?_
                        repeat (go_big_quiet_step (fail))
                        refine wpQuiet_nil ?_
                        intro w12 hb3
                        have T6 := Lib.hid (T5.out.bel hb3)
                        clear hb3 hv
                        clear hx28 hf28 hz28 hc281 hc282
                        clear hx10 hf10 hz10 hr10 hp10 hxx hfx hzx hzr hcx1 hcx2 hzl hcl1 hcl2 hz1 hce1 hz0 hce0
                        obtain ⟨hx10, hf10, hz10, hr10, hp10⟩ := (T6.out.box (k := 3) rfl).act18
                        obtain ⟨Ax, cx, hBx, hmx, hrx⟩ := T6.out.gridRd (k := 2) rfl
                        obtain ⟨hxx, hfx, hzx⟩ := hBx.facts
                        obtain ⟨bx, ox, A0, c0, rfl, hzr, hcx1, hcx2, hrd0⟩ := hrx.at_ HL0.out
                        have hrl := (T6.out.linesRd' (k := 1) rfl).2.2
                        obtain ⟨b9, o9, A1, c1, e9, hzl, hcl1, hcl2, hrd1⟩ := hrl.at_ HL1.out
                        cases e9
                        clear hBx hmx hrx hrl
                        obtain ⟨bb1, oo1, rfl, hz1, hr1⟩ := hrd1.at_ hk1
                        obtain ⟨bb0, oo0, rfl, hz0, hr0⟩ := hrd0.at_ hk0
                        have hce1 := elem_cell hr1 hk1
                        have hce0 := elem_cell hr0 hk0
                        clear hrd0 hrd1 hr1 hr0
                        go_upto_region 52 with (fail)
                        have hv := HQ.out
                        rw [hv] at hce1
                        clear hv
                        refine wp_region_below (by kernel_rfl) (by kernel_rfl) ?_
                        repeat (go_big_quiet_step (fail))
                        refine wpQuiet_nil ?_
                        intro w13 hb3
                        have T8 := Lib.hid (T6.out.bel hb3)
                        clear hb3
                        clear hx10 hf10 hz10 hr10 hp10 hxx hfx hzx hzr hcx1 hcx2 hzl hcl1 hcl2 hz1 hce1 hz0 hce0
                        go_wp2_with fail
                        go_roundw
                        case rel => exact ⟨cc + 1, by omega, by go_num, T8.out.tail⟩
                        case measure => simp [intOf]; omega
                    obtain rfl : y = r := hry.symm
                    by_cases hg : (s : Int) - N - 1 ≤ cc
                    · have dg : decide ((s : Int) - N - 1 ≤ cc) = true := decide_eq_true hg
                      by_cases hcj : cc = j
                      · have HCJ := Lib.hid hcj
                        clear hcj
                        by_cases hq : l3.1[cc] = l0.1[cc]
                        · have HQ := Lib.hid hq
                          clear hq
                          as_aux_lemma =>
                            have hv := HQ.out
                            rw [hv] at hce1 hc281 hc282
                            refine wp_region_below (by kernel_rfl) (by kernel_rfl) ?_
                            repeat (go_big_quiet_step (fail))
                            refine wpQuiet_nil ?_
                            intro w12 hb3
                            have T6 := Lib.hid (T5.out.bel hb3)
                            clear hb3 hv
                            clear hx28 hf28 hz28 hc281 hc282
                            clear hx10 hf10 hz10 hr10 hp10 hxx hfx hzx hzr hcx1 hcx2 hzl hcl1 hcl2 hz1 hce1 hz0 hce0
                            obtain ⟨hx10, hf10, hz10, hr10, hp10⟩ := (T6.out.box (k := 3) rfl).act18
                            obtain ⟨Ax, cx, hBx, hmx, hrx⟩ := T6.out.gridRd (k := 2) rfl
                            obtain ⟨hxx, hfx, hzx⟩ := hBx.facts
                            obtain ⟨bx, ox, A0, c0, rfl, hzr, hcx1, hcx2, hrd0⟩ := hrx.at_ HL0.out
                            have hrl := (T6.out.linesRd' (k := 1) rfl).2.2
                            obtain ⟨b9, o9, A1, c1, e9, hzl, hcl1, hcl2, hrd1⟩ := hrl.at_ HL1.out
                            cases e9
                            clear hBx hmx hrx hrl
                            clear hrd0 hrd1
                            have hhws1 := HWS1.out
                            have hhws2 := HWS2.out
                            have hhwj := HWJ.out
                            have hej : ((cc : Int) == (j : Int)) = true := by have := HCJ.out; rw [beq_iff_eq]; omega
                            go_upto_region 52 with (fail)
                            clear hhws1 hhws2 hhwj
                            refine wp_region_below (by kernel_rfl) (by kernel_rfl) ?_
                            repeat (go_big_quiet_step (fail))
                            refine wpQuiet_nil ?_
                            intro w13 hb3
                            have T8 := Lib.hid (T6.out.bel hb3)
                            clear hb3
                            clear hx10 hf10 hz10 hr10 hp10 hxx hfx hzx hzr hcx1 hcx2 hzl hcl1 hcl2
                            go_wp2_with fail
                            go_roundw
                            case rel => exact ⟨cc + 1, by omega, by have := HCJ.out; first | go_num | (simp only [Value.int.injEq, true_and]; omega), T8.out.tail⟩
                            case measure => simp [intOf]; omega
                        · have HQ := Lib.hid hq
                          have HBL := Lib.hid (show (l3.1[cc]).rune = 0 from HBK.out.1.resolve_left hq)
                          clear hq
                          as_aux_lemma =>
                            have hq1 : decide (l3.1[cc] = l0.1[cc]) = false := decide_eq_false HQ.out
                            refine wp_region_below (by kernel_rfl) (by kernel_rfl) ?_
                            repeat (go_big_quiet_step ((go_at_call 33; exact quiet_below (blank_is _ _ HBL.out))))
                            refine wpQuiet_nil ?_
                            intro w12 hb3
                            have T6 := Lib.hid (T5.out.bel hb3)
                            clear hb3 hq1
                            clear hx28 hf28 hz28 hc281 hc282
                            clear hx10 hf10 hz10 hr10 hp10 hxx hfx hzx hzr hcx1 hcx2 hzl hcl1 hcl2 hz1 hce1 hz0 hce0
                            obtain ⟨hx10, hf10, hz10, hr10, hp10⟩ := (T6.out.box (k := 3) rfl).act18
                            obtain ⟨Ax, cx, hBx, hmx, hrx⟩ := T6.out.gridRd (k := 2) rfl
                            obtain ⟨hxx, hfx, hzx⟩ := hBx.facts
                            obtain ⟨bx, ox, A0, c0, rfl, hzr, hcx1, hcx2, hrd0⟩ := hrx.at_ HL0.out
                            have hrl := (T6.out.linesRd' (k := 1) rfl).2.2
                            obtain ⟨b9, o9, A1, c1, e9, hzl, hcl1, hcl2, hrd1⟩ := hrl.at_ HL1.out
                            cases e9
                            clear hBx hmx hrx hrl
                            clear hrd0 hrd1
                            have hhws1 := HWS1.out
                            have hhws2 := HWS2.out
                            have hhwj := HWJ.out
                            have hej : ((cc : Int) == (j : Int)) = true := by have := HCJ.out; rw [beq_iff_eq]; omega
                            go_upto_region 52 with (fail)
                            clear hhws1 hhws2 hhwj
                            refine wp_region_below (by kernel_rfl) (by kernel_rfl) ?_
                            repeat (go_big_quiet_step (fail))
                            refine wpQuiet_nil ?_
                            intro w13 hb3
                            have T8 := Lib.hid (T6.out.bel hb3)
                            clear hb3
                            clear hx10 hf10 hz10 hr10 hp10 hxx hfx hzx hzr hcx1 hcx2 hzl hcl1 hcl2
                            go_wp2_with fail
                            go_roundw
                            case rel => exact ⟨cc + 1, by omega, by have := HCJ.out; first | go_num | (simp only [Value.int.injEq, true_and]; omega), T8.out.tail⟩
                            case measure => simp [intOf]; omega
                      have hej : ((cc : Int) == (j : Int)) = false := by rw [beq_eq_false_iff_ne]; omega
                      by_cases hcj2 : cc + 1 = j
                      · have HCJ := Lib.hid hcj2
                        clear hcj2
                        by_cases hq : l3.1[cc] = l0.1[cc]
                        · have HQ := Lib.hid hq
                          clear hq
                          as_aux_lemma =>
                            have hv := HQ.out
                            rw [hv] at hce1 hc281 hc282
                            refine wp_region_below (by kernel_rfl) (by kernel_rfl) ?_
                            repeat (go_big_quiet_step (fail))
                            refine wpQuiet_nil ?_
                            intro w12 hb3
                            have T6 := Lib.hid (T5.out.bel hb3)
                            clear hb3 hv
                            clear hx28 hf28 hz28 hc281 hc282
                            clear hx10 hf10 hz10 hr10 hp10 hxx hfx hzx hzr hcx1 hcx2 hzl hcl1 hcl2 hz1 hce1 hz0 hce0
                            obtain ⟨hx10, hf10, hz10, hr10, hp10⟩ := (T6.out.box (k := 3) rfl).act18
                            obtain ⟨Ax, cx, hBx, hmx, hrx⟩ := T6.out.gridRd (k := 2) rfl
                            obtain ⟨hxx, hfx, hzx⟩ := hBx.facts
                            obtain ⟨bx, ox, A0, c0, rfl, hzr, hcx1, hcx2, hrd0⟩ := hrx.at_ HL0.out
                            have hrl := (T6.out.linesRd' (k := 1) rfl).2.2
                            obtain ⟨b9, o9, A1, c1, e9, hzl, hcl1, hcl2, hrd1⟩ := hrl.at_ HL1.out
                            cases e9
                            clear hBx hmx hrx hrl
                            clear hrd0 hrd1
                            have hhws1 := HWS1.out
                            have hhws2 := HWS2.out
                            have hhwj := HWJ.out
                            have hek : ((cc : Int) == (j : Int) - 1) = true := by have := HCJ.out; rw [beq_iff_eq]; omega
                            go_upto_region 52 with (fail)
                            clear hhws1 hhws2 hhwj
                            refine wp_region_below (by kernel_rfl) (by kernel_rfl) ?_
                            repeat (go_big_quiet_step (fail))
                            refine wpQuiet_nil ?_
                            intro w13 hb3
                            have T8 := Lib.hid (T6.out.bel hb3)
                            clear hb3
                            clear hx10 hf10 hz10 hr10 hp10 hxx hfx hzx hzr hcx1 hcx2 hzl hcl1 hcl2
                            go_wp2_with fail
                            go_roundw
                            case rel => exact ⟨cc + 1, by omega, by have := HCJ.out; first | go_num | (simp only [Value.int.injEq, true_and]; omega), T8.out.tail⟩
                            case measure => simp [intOf]; omega
                        · have HQ := Lib.hid hq
                          have HBL := Lib.hid (show (l3.1[cc]).rune = 0 from HBK.out.1.resolve_left hq)
                          clear hq
                          as_aux_lemma =>
                            have hq1 : decide (l3.1[cc] = l0.1[cc]) = false := decide_eq_false HQ.out
                            refine wp_region_below (by kernel_rfl) (by kernel_rfl) ?_
                            repeat (go_big_quiet_step ((go_at_call 33; exact quiet_below (blank_is _ _ HBL.out))))
                            refine wpQuiet_nil ?_
                            intro w12 hb3
                            have T6 := Lib.hid (T5.out.bel hb3)
                            clear hb3 hq1
                            clear hx28 hf28 hz28 hc281 hc282
                            clear hx10 hf10 hz10 hr10 hp10 hxx hfx hzx hzr hcx1 hcx2 hzl hcl1 hcl2 hz1 hce1 hz0 hce0
                            obtain ⟨hx10, hf10, hz10, hr10, hp10⟩ := (T6.out.box (k := 3) rfl).act18
                            obtain ⟨Ax, cx, hBx, hmx, hrx⟩ := T6.out.gridRd (k := 2) rfl
                            obtain ⟨hxx, hfx, hzx⟩ := hBx.facts
                            obtain ⟨bx, ox, A0, c0, rfl, hzr, hcx1, hcx2, hrd0⟩ := hrx.at_ HL0.out
                            have hrl := (T6.out.linesRd' (k := 1) rfl).2.2
                            obtain ⟨b9, o9, A1, c1, e9, hzl, hcl1, hcl2, hrd1⟩ := hrl.at_ HL1.out
                            cases e9
                            clear hBx hmx hrx hrl
                            clear hrd0 hrd1
                            have hhws1 := HWS1.out
                            have hhws2 := HWS2.out
                            have hhwj := HWJ.out
                            have hek : ((cc : Int) == (j : Int) - 1) = true := by have := HCJ.out; rw [beq_iff_eq]; omega
                            go_upto_region 52 with (fail)
                            clear hhws1 hhws2 hhwj
                            refine wp_region_below (by kernel_rfl) (by kernel_rfl) ?_
                            repeat (go_big_quiet_step (fail))
                            refine wpQuiet_nil ?_
                            intro w13 hb3
                            have T8 := Lib.hid (T6.out.bel hb3)
                            clear hb3
                            clear hx10 hf10 hz10 hr10 hp10 hxx hfx hzx hzr hcx1 hcx2 hzl hcl1 hcl2
                            go_wp2_with fail
                            go_roundw
                            case rel => exact ⟨cc + 1, by omega, by have := HCJ.out; first | go_num | (simp only [Value.int.injEq, true_and]; omega), T8.out.tail⟩
                            case measure => simp [intOf]; omega
                      have hek : ((cc : Int) == (j : Int) - 1) = false := by rw [beq_eq_false_iff_ne]; omega
                      by_cases hq : l3.1[cc] = l0.1[cc]
                      · have HQ := Lib.hid hq
                        clear hq
                        as_aux_lemma =>
                          have hv := HQ.out
                          rw [hv] at hce1 hc281 hc282
                          refine wp_region_below (by kernel_rfl) (by kernel_rfl) ?_
                          repeat (go_big_quiet_step (fail))
                          refine wpQuiet_nil ?_
                          intro w12 hb3
                          have T6 := Lib.hid (T5.out.bel hb3)
                          clear hb3 hv
                          clear hx28 hf28 hz28 hc281 hc282
                          clear hx10 hf10 hz10 hr10 hp10 hxx hfx hzx hzr hcx1 hcx2 hzl hcl1 hcl2 hz1 hce1 hz0 hce0
                          obtain ⟨hx10, hf10, hz10, hr10, hp10⟩ := (T6.out.box (k := 3) rfl).act18
                          obtain ⟨Ax, cx, hBx, hmx, hrx⟩ := T6.out.gridRd (k := 2) rfl
                          obtain ⟨hxx, hfx, hzx⟩ := hBx.facts
                          obtain ⟨bx, ox, A0, c0, rfl, hzr, hcx1, hcx2, hrd0⟩ := hrx.at_ HL0.out
                          have hrl := (T6.out.linesRd' (k := 1) rfl).2.2
                          obtain ⟨b9, o9, A1, c1, e9, hzl, hcl1, hcl2, hrd1⟩ := hrl.at_ HL1.out
                          cases e9
                          clear hBx hmx hrx hrl
                          clear hrd0 hrd1
                          have hhws1 := HWS1.out
                          have hhws2 := HWS2.out
                          have hhwj := HWJ.out
                          go_upto_region 52 with (fail)
                          clear hhws1 hhws2 hhwj
                          refine wp_region_below (by kernel_rfl) (by kernel_rfl) ?_
                          repeat (go_big_quiet_step (fail))
                          refine wpQuiet_nil ?_
                          intro w13 hb3
                          have T8 := Lib.hid (T6.out.bel hb3)
                          clear hb3
                          clear hx10 hf10 hz10 hr10 hp10 hxx hfx hzx hzr hcx1 hcx2 hzl hcl1 hcl2
                          go_wp2_with fail
                          go_roundw
                          case rel => exact ⟨cc + 1, by omega, by go_num, T8.out.tail⟩
                          case measure => simp [intOf]; omega
                      · have HQ := Lib.hid hq
                        have HBL := Lib.hid (show (l3.1[cc]).rune = 0 from HBK.out.1.resolve_left hq)
                        clear hq
                        as_aux_lemma =>
                          have hq1 : decide (l3.1[cc] = l0.1[cc]) = false := decide_eq_false HQ.out
                          refine wp_region_below (by kernel_rfl) (by kernel_rfl) ?_
                          repeat (go_big_quiet_step ((go_at_call 33; exact quiet_below (blank_is _ _ HBL.out))))
                          refine wpQuiet_nil ?_
                          intro w12 hb3
                          have T6 := Lib.hid (T5.out.bel hb3)
                          clear hb3 hq1
                          clear hx28 hf28 hz28 hc281 hc282
                          clear hx10 hf10 hz10 hr10 hp10 hxx hfx hzx hzr hcx1 hcx2 hzl hcl1 hcl2 hz1 hce1 hz0 hce0
                          obtain ⟨hx10, hf10, hz10, hr10, hp10⟩ := (T6.out.box (k := 3) rfl).act18
                          obtain ⟨Ax, cx, hBx, hmx, hrx⟩ := T6.out.gridRd (k := 2) rfl
                          obtain ⟨hxx, hfx, hzx⟩ := hBx.facts
                          obtain ⟨bx, ox, A0, c0, rfl, hzr, hcx1, hcx2, hrd0⟩ := hrx.at_ HL0.out
                          have hrl := (T6.out.linesRd' (k := 1) rfl).2.2
                          obtain ⟨b9, o9, A1, c1, e9, hzl, hcl1, hcl2, hrd1⟩ := hrl.at_ HL1.out
                          cases e9
                          clear hBx hmx hrx hrl
                          clear hrd0 hrd1
                          have hhws1 := HWS1.out
                          have hhws2 := HWS2.out
                          have hhwj := HWJ.out
                          go_upto_region 52 with (fail)
                          clear hhws1 hhws2 hhwj
                          refine wp_region_below (by kernel_rfl) (by kernel_rfl) ?_
                          repeat (go_big_quiet_step (fail))
                          refine wpQuiet_nil ?_
                          intro w13 hb3
                          have T8 := Lib.hid (T6.out.bel hb3)
                          clear hb3
                          clear hx10 hf10 hz10 hr10 hp10 hxx hfx hzx hzr hcx1 hcx2 hzl hcl1 hcl2
                          go_wp2_with fail
                          go_roundw
                          case rel => exact ⟨cc + 1, by omega, by go_num, T8.out.tail⟩
                          case measure => simp [intOf]; omega
                    have dg : decide ((s : Int) - N - 1 ≤ cc) = false := decide_eq_false hg
                    by_cases hcj : cc = j
                    · have HCJ := Lib.hid hcj
                      clear hcj
                      by_cases hq : l3.1[cc] = l0.1[cc]
                      · have HQ := Lib.hid hq
                        clear hq
                        as_aux_lemma =>
                          have hv := HQ.out
                          rw [hv] at hce1 hc281 hc282
                          refine wp_region_below (by kernel_rfl) (by kernel_rfl) ?_
                          repeat (go_big_quiet_step (fail))
                          refine wpQuiet_nil ?_
                          intro w12 hb3
                          have T6 := Lib.hid (T5.out.bel hb3)
                          clear hb3 hv
                          clear hx28 hf28 hz28 hc281 hc282
                          clear hx10 hf10 hz10 hr10 hp10 hxx hfx hzx hzr hcx1 hcx2 hzl hcl1 hcl2 hz1 hce1 hz0 hce0
                          obtain ⟨hx10, hf10, hz10, hr10, hp10⟩ := (T6.out.box (k := 3) rfl).act18
                          obtain ⟨Ax, cx, hBx, hmx, hrx⟩ := T6.out.gridRd (k := 2) rfl
                          obtain ⟨hxx, hfx, hzx⟩ := hBx.facts
                          obtain ⟨bx, ox, A0, c0, rfl, hzr, hcx1, hcx2, hrd0⟩ := hrx.at_ HL0.out
                          have hrl := (T6.out.linesRd' (k := 1) rfl).2.2
                          obtain ⟨b9, o9, A1, c1, e9, hzl, hcl1, hcl2, hrd1⟩ := hrl.at_ HL1.out
                          cases e9
                          clear hBx hmx hrx hrl
                          clear hrd0 hrd1
                          have hhws1 := HWS1.out
                          have hhws2 := HWS2.out
                          have hhwj := HWJ.out
                          have hej : ((cc : Int) == (j : Int)) = true := by have := HCJ.out; rw [beq_iff_eq]; omega
                          go_upto_region 52 with (fail)
                          clear hhws1 hhws2 hhwj
                          refine wp_region_below (by kernel_rfl) (by kernel_rfl) ?_
                          repeat (go_big_quiet_step (fail))
                          refine wpQuiet_nil ?_
                          intro w13 hb3
                          have T8 := Lib.hid (T6.out.bel hb3)
                          clear hb3
                          clear hx10 hf10 hz10 hr10 hp10 hxx hfx hzx hzr hcx1 hcx2 hzl hcl1 hcl2
                          go_wp2_with fail
                          go_roundw
                          case rel => exact ⟨cc + 1, by omega, by have := HCJ.out; first | go_num | (simp only [Value.int.injEq, true_and]; omega), T8.out.tail⟩
                          case measure => simp [intOf]; omega
                      · have HQ := Lib.hid hq
                        have HBL := Lib.hid (show (l3.1[cc]).rune = 0 from HBK.out.1.resolve_left hq)
                        clear hq
                        as_aux_lemma =>
                          have hq1 : decide (l3.1[cc] = l0.1[cc]) = false := decide_eq_false HQ.out
                          refine wp_region_below (by kernel_rfl) (by kernel_rfl) ?_
                          repeat (go_big_quiet_step ((go_at_call 33; exact quiet_below (blank_is _ _ HBL.out))))
                          refine wpQuiet_nil ?_
                          intro w12 hb3
                          have T6 := Lib.hid (T5.out.bel hb3)
                          clear hb3 hq1
                          clear hx28 hf28 hz28 hc281 hc282
                          clear hx10 hf10 hz10 hr10 hp10 hxx hfx hzx hzr hcx1 hcx2 hzl hcl1 hcl2 hz1 hce1 hz0 hce0
                          obtain ⟨hx10, hf10, hz10, hr10, hp10⟩ := (T6.out.box (k := 3) rfl).act18
                          obtain ⟨Ax, cx, hBx, hmx, hrx⟩ := T6.out.gridRd (k := 2) rfl
                          obtain ⟨hxx, hfx, hzx⟩ := hBx.facts
                          obtain ⟨bx, ox, A0, c0, rfl, hzr, hcx1, hcx2, hrd0⟩ := hrx.at_ HL0.out
                          have hrl := (T6.out.linesRd' (k := 1) rfl).2.2
                          obtain ⟨b9, o9, A1, c1, e9, hzl, hcl1, hcl2, hrd1⟩ := hrl.at_ HL1.out
                          cases e9
                          clear hBx hmx hrx hrl
                          clear hrd0 hrd1
                          have hhws1 := HWS1.out
                          have hhws2 := HWS2.out
                          have hhwj := HWJ.out
                          have hej : ((cc : Int) == (j : Int)) = true := by have := HCJ.out; rw [beq_iff_eq]; omega
                          go_upto_region 52 with (fail)
                          clear hhws1 hhws2 hhwj
                          refine wp_region_below (by kernel_rfl) (by kernel_rfl) ?_
                          repeat (go_big_quiet_step (fail))
                          refine wpQuiet_nil ?_
                          intro w13 hb3
                          have T8 := Lib.hid (T6.out.bel hb3)
                          clear hb3
                          clear hx10 hf10 hz10 hr10 hp10 hxx hfx hzx hzr hcx1 hcx2 hzl hcl1 hcl2
                          go_wp2_with fail
                          go_roundw
                          case rel => exact ⟨cc + 1, by omega, by have := HCJ.out; first | go_num | (simp only [Value.int.injEq, true_and]; omega), T8.out.tail⟩
                          case measure => simp [intOf]; omega
                    have hej : ((cc : Int) == (j : Int)) = false := by rw [beq_eq_false_iff_ne]; omega
                    by_cases hcj2 : cc + 1 = j
                    · have HCJ := Lib.hid hcj2
                      clear hcj2
                      by_cases hq : l3.1[cc] = l0.1[cc]
                      · have HQ := Lib.hid hq
                        clear hq
                        as_aux_lemma =>
                          have hv := HQ.out
                          rw [hv] at hce1 hc281 hc282
                          refine wp_region_below (by kernel_rfl) (by kernel_rfl) ?_
                          repeat (go_big_quiet_step (fail))
                          refine wpQuiet_nil ?_
                          intro w12 hb3
                          have T6 := Lib.hid (T5.out.bel hb3)
                          clear hb3 hv
                          clear hx28 hf28 hz28 hc281 hc282
                          clear hx10 hf10 hz10 hr10 hp10 hxx hfx hzx hzr hcx1 hcx2 hzl hcl1 hcl2 hz1 hce1 hz0 hce0
                          obtain ⟨hx10, hf10, hz10, hr10, hp10⟩ := (T6.out.box (k := 3) rfl).act18
                          obtain ⟨Ax, cx, hBx, hmx, hrx⟩ := T6.out.gridRd (k := 2) rfl
                          obtain ⟨hxx, hfx, hzx⟩ := hBx.facts
                          obtain ⟨bx, ox, A0, c0, rfl, hzr, hcx1, hcx2, hrd0⟩ := hrx.at_ HL0.out
                          have hrl := (T6.out.linesRd' (k := 1) rfl).2.2
                          obtain ⟨b9, o9, A1, c1, e9, hzl, hcl1, hcl2, hrd1⟩ := hrl.at_ HL1.out
                          cases e9
                          clear hBx hmx hrx hrl
                          clear hrd0 hrd1
                          have hhws1 := HWS1.out
                          have hhws2 := HWS2.out
                          have hhwj := HWJ.out
                          have hek : ((cc : Int) == (j : Int) - 1) = true := by have := HCJ.out; rw [beq_iff_eq]; omega
                          go_upto_region 52 with (fail)
                          clear hhws1 hhws2 hhwj
                          refine wp_region_below (by kernel_rfl) (by kernel_rfl) ?_
                          repeat (go_big_quiet_step (fail))
                          refine wpQuiet_nil ?_
                          intro w13 hb3
                          have T8 := Lib.hid (T6.out.bel hb3)
                          clear hb3
                          clear hx10 hf10 hz10 hr10 hp10 hxx hfx hzx hzr hcx1 hcx2 hzl hcl1 hcl2
                          go_wp2_with fail
                          go_roundw
                          case rel => exact ⟨cc + 1, by omega, by have := HCJ.out; first | go_num | (simp only [Value.int.injEq, true_and]; omega), T8.out.tail⟩
                          case measure => simp [intOf]; omega
                      · have HQ := Lib.hid hq
                        have HBL := Lib.hid (show (l3.1[cc]).rune = 0 from HBK.out.1.resolve_left hq)
                        clear hq
                        as_aux_lemma =>
                          have hq1 : decide (l3.1[cc] = l0.1[cc]) = false := decide_eq_false HQ.out
                          refine wp_region_below (by kernel_rfl) (by kernel_rfl) ?_
                          repeat (go_big_quiet_step ((go_at_call 33; exact quiet_below (blank_is _ _ HBL.out))))
                          refine wpQuiet_nil ?_
                          intro w12 hb3
                          have T6 := Lib.hid (T5.out.bel hb3)
                          clear hb3 hq1
                          clear hx28 hf28 hz28 hc281 hc282
                          clear hx10 hf10 hz10 hr10 hp10 hxx hfx hzx hzr hcx1 hcx2 hzl hcl1 hcl2 hz1 hce1 hz0 hce0
                          obtain ⟨hx10, hf10, hz10, hr10, hp10⟩ := (T6.out.box (k := 3) rfl).act18
                          obtain ⟨Ax, cx, hBx, hmx, hrx⟩ := T6.out.gridRd (k := 2) rfl
                          obtain ⟨hxx, hfx, hzx⟩ := hBx.facts
                          obtain ⟨bx, ox, A0, c0, rfl, hzr, hcx1, hcx2, hrd0⟩ := hrx.at_ HL0.out
                          have hrl := (T6.out.linesRd' (k := 1) rfl).2.2
                          obtain ⟨b9, o9, A1, c1, e9, hzl, hcl1, hcl2, hrd1⟩ := hrl.at_ HL1.out
                          cases e9
                          clear hBx hmx hrx hrl
                          clear hrd0 hrd1
                          have hhws1 := HWS1.out
                          have hhws2 := HWS2.out
                          have hhwj := HWJ.out
                          have hek : ((cc : Int) == (j : Int) - 1) = true := by have := HCJ.out; rw [beq_iff_eq]; omega
                          go_upto_region 52 with (fail)
                          clear hhws1 hhws2 hhwj
                          refine wp_region_below (by kernel_rfl) (by kernel_rfl) ?_
                          repeat (go_big_quiet_step (fail))
                          refine wpQuiet_nil ?_
                          intro w13 hb3
                          have T8 := Lib.hid (T6.out.bel hb3)
                          clear hb3
                          clear hx10 hf10 hz10 hr10 hp10 hxx hfx hzx hzr hcx1 hcx2 hzl hcl1 hcl2
                          go_wp2_with fail
                          go_roundw
                          case rel => exact ⟨cc + 1, by omega, by have := HCJ.out; first | go_num | (simp only [Value.int.injEq, true_and]; omega), T8.out.tail⟩
                          case measure => simp [intOf]; omega
                    have hek : ((cc : Int) == (j : Int) - 1) = false := by rw [beq_eq_false_iff_ne]; omega
                    have HQ := Lib.hid (show l3.1[cc] = l0.1[cc] from HBK.out.2 (fun h => hg h.2) (fun h => h.2.elim hcj hcj2))
                    as_aux_lemma =>
                      have hv := HQ.out
                      rw [hv] at hce1 hc281 hc282
                      refine wp_region_below (by kernel_rfl) (by kernel_rfl) ?_
                      repeat (go_big_quiet_step (fail))
                      refine wpQuiet_nil ?_
                      intro w12 hb3
                      have T6 := Lib.hid (T5.out.bel hb3)
                      clear hb3 hv
                      clear hx28 hf28 hz28 hc281 hc282
                      clear hx10 hf10 hz10 hr10 hp10 hxx hfx hzx hzr hcx1 hcx2 hzl hcl1 hcl2 hz1 hce1 hz0 hce0
                      obtain ⟨hx10, hf10, hz10, hr10, hp10⟩ := (T6.out.box (k := 3) rfl).act18
                      obtain ⟨Ax, cx, hBx, hmx, hrx⟩ := T6.out.gridRd (k := 2) rfl
                      obtain ⟨hxx, hfx, hzx⟩ := hBx.facts
                      obtain ⟨bx, ox, A0, c0, rfl, hzr, hcx1, hcx2, hrd0⟩ := hrx.at_ HL0.out
                      have hrl := (T6.out.linesRd' (k := 1) rfl).2.2
                      obtain ⟨b9, o9, A1, c1, e9, hzl, hcl1, hcl2, hrd1⟩ := hrl.at_ HL1.out
                      cases e9
                      clear hBx hmx hrx hrl
                      obtain ⟨bb1, oo1, rfl, hz1, hr1⟩ := hrd1.at_ hk1
                      obtain ⟨bb0, oo0, rfl, hz0, hr0⟩ := hrd0.at_ hk0
                      have hce1 := elem_cell hr1 hk1
                      have hce0 := elem_cell hr0 hk0
                      clear hrd0 hrd1 hr1 hr0
                      have hhws1 := HWS1.out
                      have hhws2 := HWS2.out
                      have hhwj := HWJ.out
                      go_upto_region 52 with (fail)
                      clear hhws1 hhws2 hhwj
                      have hv := HQ.out
                      rw [hv] at hce1
                      clear hv
                      refine wp_region_below (by kernel_rfl) (by kernel_rfl) ?_
                      repeat (go_big_quiet_step (fail))
                      refine wpQuiet_nil ?_
                      intro w13 hb3
                      have T8 := Lib.hid (T6.out.bel hb3)
                      clear hb3
                      clear hx10 hf10 hz10 hr10 hp10 hxx hfx hzx hzr hcx1 hcx2 hzl hcl1 hcl2 hz1 hce1 hz0 hce0
                      go_wp2_with fail
                      go_roundw
                      case rel => exact ⟨cc + 1, by omega, by go_num, T8.out.tail⟩
                      case measure => simp [intOf]; omega
            have hz0b := bne_yes hz0
            by_cases hz2 : wh = 2
            · clear hz0b
              subst hz2
              have HOB := Lib.hid (HOKN.out 3 N L1 HRL1.out.2 (by omega) (HBR.out.elim (fun h => by omega) (fun h => h.elim (fun h => by omega) (fun h => .inr (.inr h)))))
              obtain ⟨L3, hL3⟩ : ∃ L3, L3 = act18L ⟨3, ↑N, ↑y, ↑j, pend, top, bot, q⟩ s L1 := ⟨_, rfl⟩
              have HRL3 := Lib.hid (show Rect s L3 ∧ L3.length = L0.length by have h := act18_rect HRL1.out.1 HOB.out; rw [hL3]; exact ⟨h.1, h.2.trans HRL1.out.2⟩)
              have HL3E := Lib.hid hL3.symm
              have HBACK := Lib.hid (show ∀ (r : Nat) (l0 l3 : Ln), L0[r]? = some l0 → L3[r]? = some l3 → ∀ i, i < s → (cAt l3.1 i = cAt l0.1 i ∨ (cAt l3.1 i).rune = 0) ∧ (¬ (bot - N < r ∧ (r : Int) ≤ bot) → cAt l3.1 i = cAt l0.1 i) from fun r l0 l3 h0 h3 i hi => by obtain ⟨l9, h1, h2⟩ := act18_back2 (a := N) (pend := pend) (top := top) (bot := bot) (q := q) (y := y) (j := j) (s := s) (HBOT.out.elim (fun h => by omega) (fun h => h.elim (fun h => by omega) id)) h0 hi; rw [HL1E.out, ← hL3, h3] at h1; cases h1; exact h2)
              have HWB := Lib.hid (show IntKind.i64.wrap (bot - (N : Int)) = bot - (N : Int) from IntWalk.i64_in _ (by have := HBR.out; omega))
              clear hL3
              as_aux_lemma =>
                have T7 := Lib.hid T4.out.tail
                clear T4
                obtain ⟨hx10, hf10, hz10, hr10, hp10⟩ := (T7.out.box (k := 2) rfl).act18
                go_upto_region 32 with (fail)
                refine at_objsC (T7.out.alloc1 (c1 := av18 ⟨2, ↑N, ↑y, ↑j, pend, top, bot, q⟩) (t1 := 50)) (fun W2 hW2 => ?_)
                clear hx10 hf10 hz10 hr10 hp10
                generalize hb23 : wr.heap.size = b23 at hW2 ⊢
                clear hb23
                obtain ⟨hx23, hf23, hz23, hr23, hp23⟩ := (hW2.box (k := 0) rfl).act18
                have hW3 := hW2.setBox 0 (i := 0) (u := .int .i64 3) rfl
                rw [av18_set0] at hW3
                have T8 := Lib.hid (show Objs w _ [.box b23 50 (av18 ⟨3, ↑N, ↑y, ↑j, pend, top, bot, q⟩), .grid p 37 ↑s L0, .grid x 63 ↑s L0, .box b10 50 (av18 ⟨2, ↑N, ↑y, ↑j, pend, top, bot, q⟩)] from hW3)
                clear hW2 hW3 T7
                go_upto_region 33 with (fail)
                refine at_objsC T8.out (fun W3 hW3 => ?_)
                clear hx23 hf23 hz23 hr23 hp23 T8
                have T8 := Lib.hid hW3
                clear hW3
                go_wp2_with fail
                refine (CopyG T8.out (k := 1) rfl hc0 hcm0 HR0.out hLm0).mono ?_
                rintro e w14 ⟨pk, rfl, hS⟩
                have T9 := Lib.hid hS
                clear hS T8
                obtain ⟨hx10, hf10, hz10, hr10, hp10⟩ := (T9.out.box (k := 4) rfl).act18
                go_wp2_with fail
                have hcon := l18call_yes ⟨2, ↑N, ↑y, ↑j, pend, top, bot, q⟩ HT.out T9.out (k := 0) rfl hcm0 HR0.out hLm5 HO.out (by simp only; omega)
                rw [HL1E.out] at hcon
                refine hcon.mono ?_
                clear hcon
                rintro e w15 ⟨rfl, hS⟩
                have TA := Lib.hid (show Objs w w15 [.grid pk 37 ↑s L1, .box b23 50 (av18 ⟨3, ↑N, ↑y, ↑j, pend, top, bot, q⟩), .grid p 37 ↑s L0, .grid x 63 ↑s L0, .box b10 50 (av18 ⟨2, ↑N, ↑y, ↑j, pend, top, bot, q⟩)] from hS)
                clear hS T9
                clear hx10 hf10 hz10 hr10 hp10
                obtain ⟨hx23, hf23, hz23, hr23, hp23⟩ := (TA.out.box (k := 1) rfl).act18
                go_wp2_with fail
                have hcon := l18call_yes ⟨3, ↑N, ↑y, ↑j, pend, top, bot, q⟩ HT.out TA.out (k := 0) rfl hcm0 HRL1.out.1 (by rw [HRL1.out.2]; exact hLm5) HOB.out (by simp only; omega)
                rw [HL3E.out] at hcon
                refine hcon.mono ?_
                clear hcon
                rintro e w16 ⟨rfl, hS⟩
                have TB := Lib.hid (show Objs w w16 [.grid pk 37 ↑s L3, .box b23 50 (av18 ⟨3, ↑N, ↑y, ↑j, pend, top, bot, q⟩), .grid p 37 ↑s L0, .grid x 63 ↑s L0, .box b10 50 (av18 ⟨2, ↑N, ↑y, ↑j, pend, top, bot, q⟩)] from hS)
                clear hS TA
                clear hx23 hf23 hz23 hr23 hp23
                go_wp2_with fail
                refine (Lines_any TB.out (k := 0) rfl hc0 (HRL3.out.1.mill hcm0) (by rw [HRL3.out.2]; exact hLm0)).mono ?_
                rintro e w17 ⟨v25, rfl, hS⟩
                obtain ⟨Aw, cwl, rfl, hmw, hrw⟩ := hS.linesRd (k := 0) rfl
                obtain ⟨gw, ow, A9, c9, rfl, -, -, -, -⟩ := hrw.at_ (i := 0) (List.getElem?_eq_getElem (show 0 < L3.length by rw [HRL3.out.2]; exact hL0))
                have hS2 := (((hS.del 1).del 1).del 1)
                rw [show L3.length = rr from HRL3.out.2.trans hlen0] at hS2 ⊢
                have T4 := Lib.hid (show Objs w w17 [.lines (.slice (some ⟨gw, ow, none⟩) rr cwl) L3, .grid x 63 ↑s L0, .box b10 50 (av18 ⟨2, ↑N, ↑y, ↑j, pend, top, bot, q⟩)] from hS2)
                clear hS hS2 TB hrw hmw
                go_wp2_with fail
                go_loopw [12, 26, 27, 28, 29, 30] (fun _ vr _ _ _ _ wr => ∃ r : Nat, r ≤ rr ∧ vr = .int .i64 r ∧ Objs w wr [.lines (.slice (some ⟨gw, ow, none⟩) rr cwl) L3, .grid x 63 ↑s L0, .box b10 50 (av18 ⟨2, ↑N, ↑y, ↑j, pend, top, bot, q⟩)]) (fun _ vr _ _ _ _ _ => rr - (intOf vr).toNat)
                case atStart => exact ⟨0, by omega, rfl, T4.out⟩
                case round =>
                  clear T4
                  obtain ⟨r, hr, rfl, hS⟩ := hrel
                  have T4 := Lib.hid hS
                  clear hS
                  by_cases hrt : r < rr
                  case neg =>
                    go_wp2_with fail
                    refine (l18known_any _ (T4.out.tabs HT.out)).mono ?_
                    rintro e wk ⟨rfl, hb⟩
                    have HB := Lib.hid (T4.out.bel hb).base
                    clear hb
                    go_wp2_with fail
                    go_ret
                    exact ⟨rfl, HB.out⟩
                  have hdr : decide ((r : Int) < rr) = true := decide_eq_true (by omega)
                  have hrL0 : r < L0.length := by omega
                  have hrL3 : r < L3.length := by rw [HRL3.out.2]; omega
                  obtain ⟨l0, hl0⟩ := get_of hrL0
                  obtain ⟨l3, hl3⟩ := get_of hrL3
                  have HL0 := Lib.hid hl0
                  have HL1 := Lib.hid hl3
                  have HN1 := Lib.hid (show l3.1.length = s from HRL3.out.1.at_ hl3)
                  have HN0 := Lib.hid (show l0.1.length = s from HR0.out.at_ hl0)
                  have hb1 : ((l3.1.length : Int) != (s : Int)) = false := by have := HN1.out; simp; omega
                  have hrl0 : (r : Int) < (rr : Int) := by omega
                  clear hl0 hl3 hrL0 hrL3
                  obtain ⟨hx10, hf10, hz10, hr10, hp10⟩ := (T4.out.box (k := 2) rfl).act18
                  obtain ⟨Ax, cx, hBx, hmx, hrx⟩ := T4.out.gridRd (k := 1) rfl
                  obtain ⟨hxx, hfx, hzx⟩ := hBx.facts
                  obtain ⟨bx, ox, A0, c0, rfl, hzr, hcx1, hcx2, hrd0⟩ := hrx.at_ HL0.out
                  have hrl := (T4.out.linesRd' (k := 0) rfl).2.2
                  obtain ⟨b9, o9, A1, c1, e9, hzl, hcl1, hcl2, hrd1⟩ := hrl.at_ HL1.out
                  cases e9
                  clear hBx hmx hrx hrl
                  clear hrd0 hrd1
                  go_wp2_with fail
                  go_loopw [12, 27, 28, 29, 30] (fun _ vc _ _ _ wr => ∃ cc : Nat, cc ≤ s ∧ vc = .int .i64 cc ∧ Objs w wr [.lines (.slice (some ⟨gw, ow, none⟩) rr cwl) L3, .grid x 63 ↑s L0, .box b10 50 (av18 ⟨2, ↑N, ↑y, ↑j, pend, top, bot, q⟩)]) (fun _ vc _ _ _ _ => s - (intOf vc).toNat)
                  case atStart => exact ⟨0, by omega, rfl, T4.out⟩
                  case round =>
                    clear hx10 hf10 hz10 hr10 hp10 hxx hfx hzx hzr hcx1 hcx2 hzl hcl1 hcl2 T4
                    obtain ⟨cc, hcc, rfl, hW⟩ := hrel
                    have T5 := Lib.hid hW
                    clear hW
                    by_cases hct : cc < s
                    case neg =>
                      go_wp2_with fail
                      go_roundw
                      case rel => exact ⟨r + 1, by omega, by go_num, T5.out⟩
                      case measure => simp [intOf]; omega
                    have hk1 : cc < l3.1.length := by rw [HN1.out]; exact hct
                    have hk0 : cc < l0.1.length := by rw [HN0.out]; exact hct
                    have HBK := Lib.hid (HBACK.out r l0 l3 HL0.out HL1.out cc hct)
                    rw [cAt_eq hk1, cAt_eq hk0] at HBK
                    obtain ⟨hx10, hf10, hz10, hr10, hp10⟩ := (T5.out.box (k := 2) rfl).act18
                    obtain ⟨Ax, cx, hBx, hmx, hrx⟩ := T5.out.gridRd (k := 1) rfl
                    obtain ⟨hxx, hfx, hzx⟩ := hBx.facts
                    obtain ⟨bx, ox, A0, c0, rfl, hzr, hcx1, hcx2, hrd0⟩ := hrx.at_ HL0.out
                    have hrl := (T5.out.linesRd' (k := 0) rfl).2.2
                    obtain ⟨b9, o9, A1, c1, e9, hzl, hcl1, hcl2, hrd1⟩ := hrl.at_ HL1.out
                    cases e9
                    clear hBx hmx hrx hrl
                    obtain ⟨bb1, oo1, rfl, hz1, hr1⟩ := hrd1.at_ hk1
                    obtain ⟨bb0, oo0, rfl, hz0, hr0⟩ := hrd0.at_ hk0
                    have hce1 := elem_cell hr1 hk1
                    have hce0 := elem_cell hr0 hk0
                    clear hrd0 hrd1 hr1 hr0
                    go_upto_region 48 with (fail)
                    refine at_objsC (T5.out.alloc1 (c1 := cv (l3.1[cc])) (t1 := 82)) (fun W5 hW5 => ?_)
                    clear T5
                    have T5 := Lib.hid hW5
                    generalize hb28 : wr.heap.size = b28 at T5 ⊢
                    clear hb28 hW5
                    clear hx10 hf10 hz10 hr10 hp10 hxx hfx hzx hzr hcx1 hcx2 hzl hcl1 hcl2 hz1 hce1 hz0 hce0
                    obtain ⟨hx28, hf28, hz28, hc281, hc282⟩ := (T5.out.box (k := 0) rfl).box
                    obtain ⟨hx10, hf10, hz10, hr10, hp10⟩ := (T5.out.box (k := 3) rfl).act18
                    obtain ⟨Ax, cx, hBx, hmx, hrx⟩ := T5.out.gridRd (k := 2) rfl
                    obtain ⟨hxx, hfx, hzx⟩ := hBx.facts
                    obtain ⟨bx, ox, A0, c0, rfl, hzr, hcx1, hcx2, hrd0⟩ := hrx.at_ HL0.out
                    have hrl := (T5.out.linesRd' (k := 1) rfl).2.2
                    obtain ⟨b9, o9, A1, c1, e9, hzl, hcl1, hcl2, hrd1⟩ := hrl.at_ HL1.out
                    cases e9
                    clear hBx hmx hrx hrl
                    obtain ⟨bb1, oo1, rfl, hz1, hr1⟩ := hrd1.at_ hk1
                    obtain ⟨bb0, oo0, rfl, hz0, hr0⟩ := hrd0.at_ hk0
                    have hce1 := elem_cell hr1 hk1
                    have hce0 := elem_cell hr0 hk0
                    clear hrd0 hrd1 hr1 hr0
                    by_cases hg1 : bot - N < r
                    case neg =>
                      have dg1 : decide (bot - N < (r : Int)) = false := decide_eq_false hg1
                      have HQ := Lib.hid (show l3.1[cc] = l0.1[cc] from HBK.out.2 (fun h => hg1 h.1))
                      as_aux_lemma =>
                        have hv := HQ.out
                        rw [hv] at hce1 hc281 hc282
                        refine wp_region_below (by kernel_rfl) (by kernel_rfl) ?_
                        repeat (go_big_quiet_step (fail))
                        refine wpQuiet_nil ?_
                        intro w12 hb3
                        have T6 := Lib.hid (T5.out.bel hb3)
                        clear hb3 hv
                        clear hx28 hf28 hz28 hc281 hc282
                        clear hx10 hf10 hz10 hr10 hp10 hxx hfx hzx hzr hcx1 hcx2 hzl hcl1 hcl2 hz1 hce1 hz0 hce0
                        obtain ⟨hx10, hf10, hz10, hr10, hp10⟩ := (T6.out.box (k := 3) rfl).act18
                        obtain ⟨Ax, cx, hBx, hmx, hrx⟩ := T6.out.gridRd (k := 2) rfl
                        obtain ⟨hxx, hfx, hzx⟩ := hBx.facts
                        obtain ⟨bx, ox, A0, c0, rfl, hzr, hcx1, hcx2, hrd0⟩ := hrx.at_ HL0.out
                        have hrl := (T6.out.linesRd' (k := 1) rfl).2.2
                        obtain ⟨b9, o9, A1, c1, e9, hzl, hcl1, hcl2, hrd1⟩ := hrl.at_ HL1.out
                        cases e9
                        clear hBx hmx hrx hrl
                        obtain ⟨bb1, oo1, rfl, hz1, hr1⟩ := hrd1.at_ hk1
                        obtain ⟨bb0, oo0, rfl, hz0, hr0⟩ := hrd0.at_ hk0
                        have hce1 := elem_cell hr1 hk1
                        have hce0 := elem_cell hr0 hk0
                        clear hrd0 hrd1 hr1 hr0
                        have hhwb := HWB.out
                        go_upto_region 52 with (fail)
                        clear hhwb
                        have hv := HQ.out
                        rw [hv] at hce1
                        clear hv
                        refine wp_region_below (by kernel_rfl) (by kernel_rfl) ?_
                        repeat (go_big_quiet_step (fail))
                        refine wpQuiet_nil ?_
                        intro w13 hb3
                        have T8 := Lib.hid (T6.out.bel hb3)
                        clear hb3
                        clear hx10 hf10 hz10 hr10 hp10 hxx hfx hzx hzr hcx1 hcx2 hzl hcl1 hcl2 hz1 hce1 hz0 hce0
                        go_wp2_with fail
                        go_roundw
                        case rel => exact ⟨cc + 1, by omega, by go_num, T8.out.tail⟩
                        case measure => simp [intOf]; omega
                    have dg1 : decide (bot - N < (r : Int)) = true := decide_eq_true hg1
                    by_cases hg2 : (r : Int) ≤ bot
                    · have dg2 : decide ((r : Int) ≤ bot) = true := decide_eq_true hg2
                      by_cases hq : l3.1[cc] = l0.1[cc]
                      · have HQ := Lib.hid hq
                        clear hq
                        as_aux_lemma =>
                          have hv := HQ.out
                          rw [hv] at hce1 hc281 hc282
                          refine wp_region_below (by kernel_rfl) (by kernel_rfl) ?_
                          repeat (go_big_quiet_step (fail))
                          refine wpQuiet_nil ?_
                          intro w12 hb3
                          have T6 := Lib.hid (T5.out.bel hb3)
                          clear hb3 hv
                          clear hx28 hf28 hz28 hc281 hc282
                          clear hx10 hf10 hz10 hr10 hp10 hxx hfx hzx hzr hcx1 hcx2 hzl hcl1 hcl2 hz1 hce1 hz0 hce0
                          obtain ⟨hx10, hf10, hz10, hr10, hp10⟩ := (T6.out.box (k := 3) rfl).act18
                          obtain ⟨Ax, cx, hBx, hmx, hrx⟩ := T6.out.gridRd (k := 2) rfl
                          obtain ⟨hxx, hfx, hzx⟩ := hBx.facts
                          obtain ⟨bx, ox, A0, c0, rfl, hzr, hcx1, hcx2, hrd0⟩ := hrx.at_ HL0.out
                          have hrl := (T6.out.linesRd' (k := 1) rfl).2.2
                          obtain ⟨b9, o9, A1, c1, e9, hzl, hcl1, hcl2, hrd1⟩ := hrl.at_ HL1.out
                          cases e9
                          clear hBx hmx hrx hrl
                          clear hrd0 hrd1
                          have hhwb := HWB.out
                          go_upto_region 52 with (fail)
                          clear hhwb
                          refine wp_region_below (by kernel_rfl) (by kernel_rfl) ?_
                          repeat (go_big_quiet_step (fail))
                          refine wpQuiet_nil ?_
                          intro w13 hb3
                          have T8 := Lib.hid (T6.out.bel hb3)
                          clear hb3
                          clear hx10 hf10 hz10 hr10 hp10 hxx hfx hzx hzr hcx1 hcx2 hzl hcl1 hcl2
                          go_wp2_with fail
                          go_roundw
                          case rel => exact ⟨cc + 1, by omega, by go_num, T8.out.tail⟩
                          case measure => simp [intOf]; omega
                      · have HQ := Lib.hid hq
                        have HBL := Lib.hid (show (l3.1[cc]).rune = 0 from HBK.out.1.resolve_left hq)
                        clear hq
                        as_aux_lemma =>
                          have hq1 : decide (l3.1[cc] = l0.1[cc]) = false := decide_eq_false HQ.out
                          refine wp_region_below (by kernel_rfl) (by kernel_rfl) ?_
                          repeat (go_big_quiet_step ((go_at_call 33; exact quiet_below (blank_is _ _ HBL.out))))
                          refine wpQuiet_nil ?_
                          intro w12 hb3
                          have T6 := Lib.hid (T5.out.bel hb3)
                          clear hb3 hq1
                          clear hx28 hf28 hz28 hc281 hc282
                          clear hx10 hf10 hz10 hr10 hp10 hxx hfx hzx hzr hcx1 hcx2 hzl hcl1 hcl2 hz1 hce1 hz0 hce0
                          obtain ⟨hx10, hf10, hz10, hr10, hp10⟩ := (T6.out.box (k := 3) rfl).act18
                          obtain ⟨Ax, cx, hBx, hmx, hrx⟩ := T6.out.gridRd (k := 2) rfl
                          obtain ⟨hxx, hfx, hzx⟩ := hBx.facts
                          obtain ⟨bx, ox, A0, c0, rfl, hzr, hcx1, hcx2, hrd0⟩ := hrx.at_ HL0.out
                          have hrl := (T6.out.linesRd' (k := 1) rfl).2.2
                          obtain ⟨b9, o9, A1, c1, e9, hzl, hcl1, hcl2, hrd1⟩ := hrl.at_ HL1.out
                          cases e9
                          clear hBx hmx hrx hrl
                          clear hrd0 hrd1
                          have hhwb := HWB.out
                          go_upto_region 52 with (fail)
                          clear hhwb
                          refine wp_region_below (by kernel_rfl) (by kernel_rfl) ?_
                          repeat (go_big_quiet_step (fail))
                          refine wpQuiet_nil ?_
                          intro w13 hb3
                          have T8 := Lib.hid (T6.out.bel hb3)
                          clear hb3
                          clear hx10 hf10 hz10 hr10 hp10 hxx hfx hzx hzr hcx1 hcx2 hzl hcl1 hcl2
                          go_wp2_with fail
                          go_roundw
                          case rel => exact ⟨cc + 1, by omega, by go_num, T8.out.tail⟩
                          case measure => simp [intOf]; omega
                    · have dg2 : decide ((r : Int) ≤ bot) = false := decide_eq_false hg2
                      have HQ := Lib.hid (show l3.1[cc] = l0.1[cc] from HBK.out.2 (fun h => hg2 h.2))
                      as_aux_lemma =>
                        have hv := HQ.out
                        rw [hv] at hce1 hc281 hc282
                        refine wp_region_below (by kernel_rfl) (by kernel_rfl) ?_
                        repeat (go_big_quiet_step (fail))
                        refine wpQuiet_nil ?_
                        intro w12 hb3
                        have T6 := Lib.hid (T5.out.bel hb3)
                        clear hb3 hv
                        clear hx28 hf28 hz28 hc281 hc282
                        clear hx10 hf10 hz10 hr10 hp10 hxx hfx hzx hzr hcx1 hcx2 hzl hcl1 hcl2 hz1 hce1 hz0 hce0
                        obtain ⟨hx10, hf10, hz10, hr10, hp10⟩ := (T6.out.box (k := 3) rfl).act18
                        obtain ⟨Ax, cx, hBx, hmx, hrx⟩ := T6.out.gridRd (k := 2) rfl
                        obtain ⟨hxx, hfx, hzx⟩ := hBx.facts
                        obtain ⟨bx, ox, A0, c0, rfl, hzr, hcx1, hcx2, hrd0⟩ := hrx.at_ HL0.out
                        have hrl := (T6.out.linesRd' (k := 1) rfl).2.2
                        obtain ⟨b9, o9, A1, c1, e9, hzl, hcl1, hcl2, hrd1⟩ := hrl.at_ HL1.out
                        cases e9
                        clear hBx hmx hrx hrl
                        obtain ⟨bb1, oo1, rfl, hz1, hr1⟩ := hrd1.at_ hk1
                        obtain ⟨bb0, oo0, rfl, hz0, hr0⟩ := hrd0.at_ hk0
                        have hce1 := elem_cell hr1 hk1
                        have hce0 := elem_cell hr0 hk0
                        clear hrd0 hrd1 hr1 hr0
                        have hhwb := HWB.out
                        go_upto_region 52 with (fail)
                        clear hhwb
                        have hv := HQ.out
                        rw [hv] at hce1
                        clear hv
                        refine wp_region_below (by kernel_rfl) (by kernel_rfl) ?_
                        repeat (go_big_quiet_step (fail))
                        refine wpQuiet_nil ?_
                        intro w13 hb3
                        have T8 := Lib.hid (T6.out.bel hb3)
                        clear hb3
                        clear hx10 hf10 hz10 hr10 hp10 hxx hfx hzx hzr hcx1 hcx2 hzl hcl1 hcl2 hz1 hce1 hz0 hce0
                        go_wp2_with fail
                        go_roundw
                        case rel => exact ⟨cc + 1, by omega, by go_num, T8.out.tail⟩
                        case measure => simp [intOf]; omega
            have hz2b := bne_yes hz2
            obtain ⟨hx10, hf10, hz10, hr10, hp10⟩ := (T4.out.box (k := 3) rfl).act18
            go_wp2_with fail
            refine (l18known_any _ (T4.out.tabs HT.out)).mono ?_
            rintro e wk ⟨rfl, hb⟩
            have HB := Lib.hid (T4.out.bel hb).base
            clear hb
            go_wp2_with fail
            go_ret
            exact ⟨rfl, HB.out⟩
          have hdr : decide ((r : Int) < rr) = true := decide_eq_true (by omega)
          have hrL0 : r < L0.length := by omega
          have hrL1 : r < L1.length := by rw [HRL1.out.2]; omega
          obtain ⟨l0, hl0⟩ := get_of hrL0
          obtain ⟨l1, hl1⟩ := get_of hrL1
          have HL0 := Lib.hid hl0
          have HL1 := Lib.hid hl1
          have HN1 := Lib.hid (show l1.1.length = s from HRL1.out.1.at_ hl1)
          have HN0 := Lib.hid (show l0.1.length = s from HR0.out.at_ hl0)
          have hb1 : ((l1.1.length : Int) != (s : Int)) = false := by have := HN1.out; simp; omega
          have hrl0 : (r : Int) < (rr : Int) := by omega
          clear hl0 hl1 hrL0 hrL1
          by_cases hwh : wh = 0 ∨ wh = 1
          · have d1 : decide (1 < wh) = false := decide_eq_false (by omega)
            have d2 : decide (wh < 2) = true := decide_eq_true (by omega)
            by_cases hry : r = y
            · obtain rfl : y = r := hry.symm
              have HKC := Lib.hid (show ∀ i, i + 1 < j → cAt l1.1 i = cAt l0.1 i from fun i hi => by obtain ⟨l9, h1, h2⟩ := act18_keepCell (wh := wh) (n := N) (pend := pend) (top := top) (bot := bot) (q := q) (y := y) HR0.out hj hwh HL0.out hi; rw [HL1E.out, HL1.out] at h1; cases h1; exact h2)
              as_aux_lemma =>
                obtain ⟨hx10, hf10, hz10, hr10, hp10⟩ := (T4.out.box (k := 3) rfl).act18
                obtain ⟨Ax, cx, hBx, hmx, hrx⟩ := T4.out.gridRd (k := 2) rfl
                obtain ⟨hxx, hfx, hzx⟩ := hBx.facts
                obtain ⟨bx, ox, A0, c0, rfl, hzr, hcx1, hcx2, hrd0⟩ := hrx.at_ HL0.out
                have hrl := (T4.out.linesRd' (k := 0) rfl).2.2
                obtain ⟨b9, o9, A1, c1, e9, hzl, hcl1, hcl2, hrd1⟩ := hrl.at_ HL1.out
                cases e9
                clear hBx hmx hrx hrl
                clear hrd0 hrd1
                go_wp2_with fail
                go_loopw [12, 22] (fun _ vc wr => ∃ cc : Nat, cc ≤ s ∧ vc = .int .i64 cc ∧ Objs w wr [.lines (.slice (some ⟨gv, ov, none⟩) rr cvl) L1, .grid p 37 ↑s L0, .grid x 63 ↑s L0, .box b10 50 (av18 ⟨wh, ↑N, ↑y, ↑j, pend, top, bot, q⟩)]) (fun _ vc _ => s - (intOf vc).toNat)
                case atStart => exact ⟨0, by omega, rfl, T4.out⟩
                case round =>
                  clear hx10 hf10 hz10 hr10 hp10 hxx hfx hzx hzr hcx1 hcx2 hzl hcl1 hcl2 T4
                  obtain ⟨cc, hcc, rfl, hW⟩ := hrel
                  have T5 := Lib.hid hW
                  clear hW
                  by_cases hct : cc < s
                  case neg =>
                    go_wp2_with fail
                    go_roundw
                    case rel => exact ⟨y + 1, by omega, by go_num, T5.out⟩
                    case measure => simp [intOf]; omega
                  have hk1 : cc < l1.1.length := by rw [HN1.out]; exact hct
                  have hk0 : cc < l0.1.length := by rw [HN0.out]; exact hct
                  obtain ⟨hx10, hf10, hz10, hr10, hp10⟩ := (T5.out.box (k := 3) rfl).act18
                  obtain ⟨Ax, cx, hBx, hmx, hrx⟩ := T5.out.gridRd (k := 2) rfl
                  obtain ⟨hxx, hfx, hzx⟩ := hBx.facts
                  obtain ⟨bx, ox, A0, c0, rfl, hzr, hcx1, hcx2, hrd0⟩ := hrx.at_ HL0.out
                  have hrl := (T5.out.linesRd' (k := 0) rfl).2.2
                  obtain ⟨b9, o9, A1, c1, e9, hzl, hcl1, hcl2, hrd1⟩ := hrl.at_ HL1.out
                  cases e9
                  clear hBx hmx hrx hrl
                  obtain ⟨bb1, oo1, rfl, hz1, hr1⟩ := hrd1.at_ hk1
                  obtain ⟨bb0, oo0, rfl, hz0, hr0⟩ := hrd0.at_ hk0
                  have hce1 := elem_cell hr1 hk1
                  have hce0 := elem_cell hr0 hk0
                  clear hrd0 hrd1 hr1 hr0
                  by_cases hfar : cc + 1 < j
                  · have dl : decide ((cc : Int) < (j : Int) - 1) = true := decide_eq_true (by omega)
                    have hv : l1.1[cc] = l0.1[cc] := by have := HKC.out cc hfar; rw [cAt_eq hk1, cAt_eq hk0] at this; exact this
                    rw [hv] at hce1
                    clear hv
                    have hwj := HWJ.out
                    go_upto_region 27 with (fail)
                    refine wp_region_below (by kernel_rfl) (by kernel_rfl) ?_
                    repeat (go_big_quiet_step (fail))
                    refine wpQuiet_nil ?_
                    intro w12 hb3
                    have T6 := Lib.hid (T5.out.bel hb3)
                    clear hb3 hwj
                    clear hx10 hf10 hz10 hr10 hp10 hxx hfx hzx hzr hcx1 hcx2 hzl hcl1 hcl2 hz1 hce1 hz0 hce0
                    go_wp2_with fail
                    go_roundw
                    case rel => exact ⟨cc + 1, by omega, by go_num, T6.out⟩
                    case measure => simp [intOf]; omega
                  · have dl : decide ((cc : Int) < (j : Int) - 1) = false := decide_eq_false (by omega)
                    have hwj := HWJ.out
                    go_upto_region 27 with (fail)
                    refine wp_region_below (by kernel_rfl) (by kernel_rfl) ?_
                    repeat (go_big_quiet_step (fail))
                    refine wpQuiet_nil ?_
                    intro w12 hb3
                    have T6 := Lib.hid (T5.out.bel hb3)
                    clear hb3 hwj
                    clear hx10 hf10 hz10 hr10 hp10 hxx hfx hzx hzr hcx1 hcx2 hzl hcl1 hcl2 hz1 hce1 hz0 hce0
                    go_wp2_with fail
                    go_roundw
                    case rel => exact ⟨cc + 1, by omega, by go_num, T6.out⟩
                    case measure => simp [intOf]; omega
            · have he : ((r : Int) == (y : Int)) = false := by rw [beq_eq_false_iff_ne]; omega
              have HEQ := Lib.hid (show l1.1 = l0.1 from by obtain ⟨l9, h1, h2⟩ := act18_keepRow (wh := wh) (n := N) (y := y) (j := j) (pend := pend) (top := top) (bot := bot) (q := q) (s := s) HBOT.out HL0.out (.inl ⟨hwh, hry⟩); rw [HL1E.out, HL1.out] at h1; cases h1; exact h2)
              as_aux_lemma =>
                obtain ⟨hx10, hf10, hz10, hr10, hp10⟩ := (T4.out.box (k := 3) rfl).act18
                obtain ⟨Ax, cx, hBx, hmx, hrx⟩ := T4.out.gridRd (k := 2) rfl
                obtain ⟨hxx, hfx, hzx⟩ := hBx.facts
                obtain ⟨bx, ox, A0, c0, rfl, hzr, hcx1, hcx2, hrd0⟩ := hrx.at_ HL0.out
                have hrl := (T4.out.linesRd' (k := 0) rfl).2.2
                obtain ⟨b9, o9, A1, c1, e9, hzl, hcl1, hcl2, hrd1⟩ := hrl.at_ HL1.out
                cases e9
                clear hBx hmx hrx hrl
                clear hrd0 hrd1
                go_wp2_with fail
                go_loopw [12, 22] (fun _ vc wr => ∃ cc : Nat, cc ≤ s ∧ vc = .int .i64 cc ∧ Objs w wr [.lines (.slice (some ⟨gv, ov, none⟩) rr cvl) L1, .grid p 37 ↑s L0, .grid x 63 ↑s L0, .box b10 50 (av18 ⟨wh, ↑N, ↑y, ↑j, pend, top, bot, q⟩)]) (fun _ vc _ => s - (intOf vc).toNat)
                case atStart => exact ⟨0, by omega, rfl, T4.out⟩
                case round =>
                  clear hx10 hf10 hz10 hr10 hp10 hxx hfx hzx hzr hcx1 hcx2 hzl hcl1 hcl2 T4
                  obtain ⟨cc, hcc, rfl, hW⟩ := hrel
                  have T5 := Lib.hid hW
                  clear hW
                  by_cases hct : cc < s
                  case neg =>
                    go_wp2_with fail
                    go_roundw
                    case rel => exact ⟨r + 1, by omega, by go_num, T5.out⟩
                    case measure => simp [intOf]; omega
                  have hk1 : cc < l1.1.length := by rw [HN1.out]; exact hct
                  have hk0 : cc < l0.1.length := by rw [HN0.out]; exact hct
                  obtain ⟨hx10, hf10, hz10, hr10, hp10⟩ := (T5.out.box (k := 3) rfl).act18
                  obtain ⟨Ax, cx, hBx, hmx, hrx⟩ := T5.out.gridRd (k := 2) rfl
                  obtain ⟨hxx, hfx, hzx⟩ := hBx.facts
                  obtain ⟨bx, ox, A0, c0, rfl, hzr, hcx1, hcx2, hrd0⟩ := hrx.at_ HL0.out
                  have hrl := (T5.out.linesRd' (k := 0) rfl).2.2
                  obtain ⟨b9, o9, A1, c1, e9, hzl, hcl1, hcl2, hrd1⟩ := hrl.at_ HL1.out
                  cases e9
                  clear hBx hmx hrx hrl
                  obtain ⟨bb1, oo1, rfl, hz1, hr1⟩ := hrd1.at_ hk1
                  obtain ⟨bb0, oo0, rfl, hz0, hr0⟩ := hrd0.at_ hk0
                  have hce1 := elem_cell hr1 hk1
                  have hce0 := elem_cell hr0 hk0
                  clear hrd0 hrd1 hr1 hr0
                  have hv : l1.1[cc] = l0.1[cc] := by have := HEQ.out; simp only [this]
                  rw [hv] at hce1
                  clear hv
                  go_upto_region 27 with (fail)
                  refine wp_region_below (by kernel_rfl) (by kernel_rfl) ?_
                  repeat (go_big_quiet_step (fail))
                  refine wpQuiet_nil ?_
                  intro w12 hb3
                  have T6 := Lib.hid (T5.out.bel hb3)
                  clear hb3
                  clear hx10 hf10 hz10 hr10 hp10 hxx hfx hzx hzr hcx1 hcx2 hzl hcl1 hcl2 hz1 hce1 hz0 hce0
                  go_wp2_with fail
                  go_roundw
                  case rel => exact ⟨cc + 1, by omega, by go_num, T6.out⟩
                  case measure => simp [intOf]; omega
          have d1 : decide (1 < wh) = true := decide_eq_true (by omega)
          have d2 : decide (wh < 2) = false := decide_eq_false (by omega)
          by_cases g1 : top ≤ (y : Int)
          case neg =>
            have g1b : decide (top ≤ (y : Int)) = false := decide_eq_false g1
            have HEQ := Lib.hid (show l1.1 = l0.1 from by obtain ⟨l9, h1, h2⟩ := act18_keepRow (wh := wh) (n := N) (y := y) (j := j) (pend := pend) (top := top) (bot := bot) (q := q) (s := s) HBOT.out HL0.out (.inr ⟨hwh, fun h => g1 h.1⟩); rw [HL1E.out, HL1.out] at h1; cases h1; exact h2)
            as_aux_lemma =>
              obtain ⟨hx10, hf10, hz10, hr10, hp10⟩ := (T4.out.box (k := 3) rfl).act18
              obtain ⟨Ax, cx, hBx, hmx, hrx⟩ := T4.out.gridRd (k := 2) rfl
              obtain ⟨hxx, hfx, hzx⟩ := hBx.facts
              obtain ⟨bx, ox, A0, c0, rfl, hzr, hcx1, hcx2, hrd0⟩ := hrx.at_ HL0.out
              have hrl := (T4.out.linesRd' (k := 0) rfl).2.2
              obtain ⟨b9, o9, A1, c1, e9, hzl, hcl1, hcl2, hrd1⟩ := hrl.at_ HL1.out
              cases e9
              clear hBx hmx hrx hrl
              clear hrd0 hrd1
              go_wp2_with fail
              go_loopw [12, 22] (fun _ vc wr => ∃ cc : Nat, cc ≤ s ∧ vc = .int .i64 cc ∧ Objs w wr [.lines (.slice (some ⟨gv, ov, none⟩) rr cvl) L1, .grid p 37 ↑s L0, .grid x 63 ↑s L0, .box b10 50 (av18 ⟨wh, ↑N, ↑y, ↑j, pend, top, bot, q⟩)]) (fun _ vc _ => s - (intOf vc).toNat)
              case atStart => exact ⟨0, by omega, rfl, T4.out⟩
              case round =>
                clear hx10 hf10 hz10 hr10 hp10 hxx hfx hzx hzr hcx1 hcx2 hzl hcl1 hcl2 T4
                obtain ⟨cc, hcc, rfl, hW⟩ := hrel
                have T5 := Lib.hid hW
                clear hW
                by_cases hct : cc < s
                case neg =>
                  go_wp2_with fail
                  go_roundw
                  case rel => exact ⟨r + 1, by omega, by go_num, T5.out⟩
                  case measure => simp [intOf]; omega
                have hk1 : cc < l1.1.length := by rw [HN1.out]; exact hct
                have hk0 : cc < l0.1.length := by rw [HN0.out]; exact hct
                obtain ⟨hx10, hf10, hz10, hr10, hp10⟩ := (T5.out.box (k := 3) rfl).act18
                obtain ⟨Ax, cx, hBx, hmx, hrx⟩ := T5.out.gridRd (k := 2) rfl
                obtain ⟨hxx, hfx, hzx⟩ := hBx.facts
                obtain ⟨bx, ox, A0, c0, rfl, hzr, hcx1, hcx2, hrd0⟩ := hrx.at_ HL0.out
                have hrl := (T5.out.linesRd' (k := 0) rfl).2.2
                obtain ⟨b9, o9, A1, c1, e9, hzl, hcl1, hcl2, hrd1⟩ := hrl.at_ HL1.out
                cases e9
                clear hBx hmx hrx hrl
                obtain ⟨bb1, oo1, rfl, hz1, hr1⟩ := hrd1.at_ hk1
                obtain ⟨bb0, oo0, rfl, hz0, hr0⟩ := hrd0.at_ hk0
                have hce1 := elem_cell hr1 hk1
                have hce0 := elem_cell hr0 hk0
                clear hrd0 hrd1 hr1 hr0
                have hv : l1.1[cc] = l0.1[cc] := by have := HEQ.out; simp only [this]
                rw [hv] at hce1
                clear hv
                go_upto_region 27 with (fail)
                refine wp_region_below (by kernel_rfl) (by kernel_rfl) ?_
                repeat (go_big_quiet_step (fail))
                refine wpQuiet_nil ?_
                intro w12 hb3
                have T6 := Lib.hid (T5.out.bel hb3)
                clear hb3
                clear hx10 hf10 hz10 hr10 hp10 hxx hfx hzx hzr hcx1 hcx2 hzl hcl1 hcl2 hz1 hce1 hz0 hce0
                go_wp2_with fail
                go_roundw
                case rel => exact ⟨cc + 1, by omega, by go_num, T6.out⟩
                case measure => simp [intOf]; omega
          have g1b : decide (top ≤ (y : Int)) = true := decide_eq_true g1
          by_cases g2 : y ≤ r
          case neg =>
            have g2b : decide ((y : Int) ≤ (r : Int)) = false := decide_eq_false (by omega)
            have HEQ := Lib.hid (show l1.1 = l0.1 from by obtain ⟨l9, h1, h2⟩ := act18_keepRow (wh := wh) (n := N) (y := y) (j := j) (pend := pend) (top := top) (bot := bot) (q := q) (s := s) HBOT.out HL0.out (.inr ⟨hwh, fun h => g2 h.2.1⟩); rw [HL1E.out, HL1.out] at h1; cases h1; exact h2)
            as_aux_lemma =>
              obtain ⟨hx10, hf10, hz10, hr10, hp10⟩ := (T4.out.box (k := 3) rfl).act18
              obtain ⟨Ax, cx, hBx, hmx, hrx⟩ := T4.out.gridRd (k := 2) rfl
              obtain ⟨hxx, hfx, hzx⟩ := hBx.facts
              obtain ⟨bx, ox, A0, c0, rfl, hzr, hcx1, hcx2, hrd0⟩ := hrx.at_ HL0.out
              have hrl := (T4.out.linesRd' (k := 0) rfl).2.2
              obtain ⟨b9, o9, A1, c1, e9, hzl, hcl1, hcl2, hrd1⟩ := hrl.at_ HL1.out
              cases e9
              clear hBx hmx hrx hrl
              clear hrd0 hrd1
              go_wp2_with fail
              go_loopw [12, 22] (fun _ vc wr => ∃ cc : Nat, cc ≤ s ∧ vc = .int .i64 cc ∧ Objs w wr [.lines (.slice (some ⟨gv, ov, none⟩) rr cvl) L1, .grid p 37 ↑s L0, .grid x 63 ↑s L0, .box b10 50 (av18 ⟨wh, ↑N, ↑y, ↑j, pend, top, bot, q⟩)]) (fun _ vc _ => s - (intOf vc).toNat)
              case atStart => exact ⟨0, by omega, rfl, T4.out⟩
              case round =>
                clear hx10 hf10 hz10 hr10 hp10 hxx hfx hzx hzr hcx1 hcx2 hzl hcl1 hcl2 T4
                obtain ⟨cc, hcc, rfl, hW⟩ := hrel
                have T5 := Lib.hid hW
                clear hW
                by_cases hct : cc < s
                case neg =>
                  go_wp2_with fail
                  go_roundw
                  case rel => exact ⟨r + 1, by omega, by go_num, T5.out⟩
                  case measure => simp [intOf]; omega
                have hk1 : cc < l1.1.length := by rw [HN1.out]; exact hct
                have hk0 : cc < l0.1.length := by rw [HN0.out]; exact hct
                obtain ⟨hx10, hf10, hz10, hr10, hp10⟩ := (T5.out.box (k := 3) rfl).act18
                obtain ⟨Ax, cx, hBx, hmx, hrx⟩ := T5.out.gridRd (k := 2) rfl
                obtain ⟨hxx, hfx, hzx⟩ := hBx.facts
                obtain ⟨bx, ox, A0, c0, rfl, hzr, hcx1, hcx2, hrd0⟩ := hrx.at_ HL0.out
                have hrl := (T5.out.linesRd' (k := 0) rfl).2.2
                obtain ⟨b9, o9, A1, c1, e9, hzl, hcl1, hcl2, hrd1⟩ := hrl.at_ HL1.out
                cases e9
                clear hBx hmx hrx hrl
                obtain ⟨bb1, oo1, rfl, hz1, hr1⟩ := hrd1.at_ hk1
                obtain ⟨bb0, oo0, rfl, hz0, hr0⟩ := hrd0.at_ hk0
                have hce1 := elem_cell hr1 hk1
                have hce0 := elem_cell hr0 hk0
                clear hrd0 hrd1 hr1 hr0
                have hv : l1.1[cc] = l0.1[cc] := by have := HEQ.out; simp only [this]
                rw [hv] at hce1
                clear hv
                go_upto_region 27 with (fail)
                refine wp_region_below (by kernel_rfl) (by kernel_rfl) ?_
                repeat (go_big_quiet_step (fail))
                refine wpQuiet_nil ?_
                intro w12 hb3
                have T6 := Lib.hid (T5.out.bel hb3)
                clear hb3
                clear hx10 hf10 hz10 hr10 hp10 hxx hfx hzx hzr hcx1 hcx2 hzl hcl1 hcl2 hz1 hce1 hz0 hce0
                go_wp2_with fail
                go_roundw
                case rel => exact ⟨cc + 1, by omega, by go_num, T6.out⟩
                case measure => simp [intOf]; omega
          have g2b : decide ((y : Int) ≤ (r : Int)) = true := decide_eq_true (by omega)
          by_cases g3 : (r : Int) ≤ bot
          · have g3b : decide ((r : Int) ≤ bot) = true := decide_eq_true g3
            as_aux_lemma =>
              obtain ⟨hx10, hf10, hz10, hr10, hp10⟩ := (T4.out.box (k := 3) rfl).act18
              obtain ⟨Ax, cx, hBx, hmx, hrx⟩ := T4.out.gridRd (k := 2) rfl
              obtain ⟨hxx, hfx, hzx⟩ := hBx.facts
              obtain ⟨bx, ox, A0, c0, rfl, hzr, hcx1, hcx2, hrd0⟩ := hrx.at_ HL0.out
              have hrl := (T4.out.linesRd' (k := 0) rfl).2.2
              obtain ⟨b9, o9, A1, c1, e9, hzl, hcl1, hcl2, hrd1⟩ := hrl.at_ HL1.out
              cases e9
              clear hBx hmx hrx hrl
              clear hrd0 hrd1
              go_wp2_with fail
              go_loopw [12, 22] (fun _ vc wr => ∃ cc : Nat, cc ≤ s ∧ vc = .int .i64 cc ∧ Objs w wr [.lines (.slice (some ⟨gv, ov, none⟩) rr cvl) L1, .grid p 37 ↑s L0, .grid x 63 ↑s L0, .box b10 50 (av18 ⟨wh, ↑N, ↑y, ↑j, pend, top, bot, q⟩)]) (fun _ vc _ => s - (intOf vc).toNat)
              case atStart => exact ⟨0, by omega, rfl, T4.out⟩
              case round =>
                clear hx10 hf10 hz10 hr10 hp10 hxx hfx hzx hzr hcx1 hcx2 hzl hcl1 hcl2 T4
                obtain ⟨cc, hcc, rfl, hW⟩ := hrel
                have T5 := Lib.hid hW
                clear hW
                by_cases hct : cc < s
                case neg =>
                  go_wp2_with fail
                  go_roundw
                  case rel => exact ⟨r + 1, by omega, by go_num, T5.out⟩
                  case measure => simp [intOf]; omega
                have hk1 : cc < l1.1.length := by rw [HN1.out]; exact hct
                have hk0 : cc < l0.1.length := by rw [HN0.out]; exact hct
                obtain ⟨hx10, hf10, hz10, hr10, hp10⟩ := (T5.out.box (k := 3) rfl).act18
                obtain ⟨Ax, cx, hBx, hmx, hrx⟩ := T5.out.gridRd (k := 2) rfl
                obtain ⟨hxx, hfx, hzx⟩ := hBx.facts
                obtain ⟨bx, ox, A0, c0, rfl, hzr, hcx1, hcx2, hrd0⟩ := hrx.at_ HL0.out
                have hrl := (T5.out.linesRd' (k := 0) rfl).2.2
                obtain ⟨b9, o9, A1, c1, e9, hzl, hcl1, hcl2, hrd1⟩ := hrl.at_ HL1.out
                cases e9
                clear hBx hmx hrx hrl
                obtain ⟨bb1, oo1, rfl, hz1, hr1⟩ := hrd1.at_ hk1
                obtain ⟨bb0, oo0, rfl, hz0, hr0⟩ := hrd0.at_ hk0
                have hce1 := elem_cell hr1 hk1
                have hce0 := elem_cell hr0 hk0
                clear hrd0 hrd1 hr1 hr0
                go_upto_region 27 with (fail)
                refine wp_region_below (by kernel_rfl) (by kernel_rfl) ?_
                repeat (go_big_quiet_step (fail))
                refine wpQuiet_nil ?_
                intro w12 hb3
                have T6 := Lib.hid (T5.out.bel hb3)
                clear hb3
                clear hx10 hf10 hz10 hr10 hp10 hxx hfx hzx hzr hcx1 hcx2 hzl hcl1 hcl2 hz1 hce1 hz0 hce0
                go_wp2_with fail
                go_roundw
                case rel => exact ⟨cc + 1, by omega, by go_num, T6.out⟩
                case measure => simp [intOf]; omega
          · have g3b : decide ((r : Int) ≤ bot) = false := decide_eq_false g3
            have HEQ := Lib.hid (show l1.1 = l0.1 from by obtain ⟨l9, h1, h2⟩ := act18_keepRow (wh := wh) (n := N) (y := y) (j := j) (pend := pend) (top := top) (bot := bot) (q := q) (s := s) HBOT.out HL0.out (.inr ⟨hwh, fun h => g3 h.2.2⟩); rw [HL1E.out, HL1.out] at h1; cases h1; exact h2)
            as_aux_lemma =>
              obtain ⟨hx10, hf10, hz10, hr10, hp10⟩ := (T4.out.box (k := 3) rfl).act18
              obtain ⟨Ax, cx, hBx, hmx, hrx⟩ := T4.out.gridRd (k := 2) rfl
              obtain ⟨hxx, hfx, hzx⟩ := hBx.facts
              obtain ⟨bx, ox, A0, c0, rfl, hzr, hcx1, hcx2, hrd0⟩ := hrx.at_ HL0.out
              have hrl := (T4.out.linesRd' (k := 0) rfl).2.2
              obtain ⟨b9, o9, A1, c1, e9, hzl, hcl1, hcl2, hrd1⟩ := hrl.at_ HL1.out
              cases e9
              clear hBx hmx hrx hrl
              clear hrd0 hrd1
              go_wp2_with fail
              go_loopw [12, 22] (fun _ vc wr => ∃ cc : Nat, cc ≤ s ∧ vc = .int .i64 cc ∧ Objs w wr [.lines (.slice (some ⟨gv, ov, none⟩) rr cvl) L1, .grid p 37 ↑s L0, .grid x 63 ↑s L0, .box b10 50 (av18 ⟨wh, ↑N, ↑y, ↑j, pend, top, bot, q⟩)]) (fun _ vc _ => s - (intOf vc).toNat)
              case atStart => exact ⟨0, by omega, rfl, T4.out⟩
              case round =>
                clear hx10 hf10 hz10 hr10 hp10 hxx hfx hzx hzr hcx1 hcx2 hzl hcl1 hcl2 T4
                obtain ⟨cc, hcc, rfl, hW⟩ := hrel
                have T5 := Lib.hid hW
                clear hW
                by_cases hct : cc < s
                case neg =>
                  go_wp2_with fail
                  go_roundw
                  case rel => exact ⟨r + 1, by omega, by go_num, T5.out⟩
                  case measure => simp [intOf]; omega
                have hk1 : cc < l1.1.length := by rw [HN1.out]; exact hct
                have hk0 : cc < l0.1.length := by rw [HN0.out]; exact hct
                obtain ⟨hx10, hf10, hz10, hr10, hp10⟩ := (T5.out.box (k := 3) rfl).act18
                obtain ⟨Ax, cx, hBx, hmx, hrx⟩ := T5.out.gridRd (k := 2) rfl
                obtain ⟨hxx, hfx, hzx⟩ := hBx.facts
                obtain ⟨bx, ox, A0, c0, rfl, hzr, hcx1, hcx2, hrd0⟩ := hrx.at_ HL0.out
                have hrl := (T5.out.linesRd' (k := 0) rfl).2.2
                obtain ⟨b9, o9, A1, c1, e9, hzl, hcl1, hcl2, hrd1⟩ := hrl.at_ HL1.out
                cases e9
                clear hBx hmx hrx hrl
                obtain ⟨bb1, oo1, rfl, hz1, hr1⟩ := hrd1.at_ hk1
                obtain ⟨bb0, oo0, rfl, hz0, hr0⟩ := hrd0.at_ hk0
                have hce1 := elem_cell hr1 hk1
                have hce0 := elem_cell hr0 hk0
                clear hrd0 hrd1 hr1 hr0
                have hv : l1.1[cc] = l0.1[cc] := by have := HEQ.out; simp only [this]
                rw [hv] at hce1
                clear hv
                go_upto_region 27 with (fail)
                refine wp_region_below (by kernel_rfl) (by kernel_rfl) ?_
                repeat (go_big_quiet_step (fail))
                refine wpQuiet_nil ?_
                intro w12 hb3
                have T6 := Lib.hid (T5.out.bel hb3)
                clear hb3
                clear hx10 hf10 hz10 hr10 hp10 hxx hfx hzx hzr hcx1 hcx2 hzl hcl1 hcl2 hz1 hce1 hz0 hce0
                go_wp2_with fail
                go_roundw
                case rel => exact ⟨cc + 1, by omega, by go_num, T6.out⟩
                case measure => simp [intOf]; omega
end Go.Proofs.YtghahanpmcpacaaDoor
