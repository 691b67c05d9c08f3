/-
  RegionPlays: the law returns true.
-/
import Derived.Test.YtghahanpmcpacaaDoorR7
import Derived.Test.YtghahanpmcpacaaDoorD19Z
set_option linter.unusedSimpArgs false
set_option linter.unusedVariables false
namespace Go.Proofs.YtghahanpmcpacaaDoor
open Go.RowKit

/-- The reference's grid is closed again; the lines are left. -/
theorem close_rows {w0 w : World} {o l1 : Ob} {x : Nat} {t : TypeId} {cols : Int} {v : Value} {L : List Ln} {os : List Ob} (h : Objs w0 w (o :: .box x t #[.int .i64 cols, v] :: l1 :: .lines v L :: os)) : Objs w0 w (o :: .grid x t cols L :: os) := by
  have h1 := (h.lift (k := 3) rfl).closeGrid (k := 1) rfl
  exact (h1.del 2).del 2
set_option maxRecDepth 100000 in
set_option maxHeartbeats 8000000 in
theorem l19RegionPlays_any (rows cols : Int) (A : Option Addr) (c : Nat) (fill : List Cell) (soft : Int) (Al : Option Addr) (cl : Nat) (l : List Act19) (w : World) (hT : Tabs w) (ha : RdC w A c fill) (hm : c ≤ maxLen) (hs : 0 ≤ soft ∧ soft ≤ 65535) (hal : RdRec w Al cl 18 (l.map av19)) (hml : cl ≤ maxLen) (hnl : ∀ a ∈ l, -9223372036854775808 ≤ a.n ∧ a.n ≤ 9223372036854775807) :
    Calls Tryd.prog 8 #[.int .i64 rows, .int .i64 cols, .slice A fill.length c, .int .u16 soft, .slice Al l.length cl] w fun e w' => e = .returned (.bool true) ∧ Below w.heap.size w w' := by
  have HT := Lib.hid hT
  have HA := Lib.hid ha
  have HAL := Lib.hid hal
  have hfm : fill.length ≤ maxLen := Nat.le_trans ha.1 hm
  have hlm : l.length ≤ maxLen := Nat.le_trans (by have := hal.1; simpa using this) hml
  have hlm2 : l.length ≤ 9223372036854775807 := by unfold maxLen at hlm; omega
  have HNL := Lib.hid hnl
  clear hT ha hm hal hml hlm hnl
  cases hsm : smallB rows cols fill.length with
  | false =>
    have HSM := Lib.hid hsm
    clear hsm
    go_enter Tryd.func8, Tryd.ntmps8
    go_wp2_with fail
    refine (l19small_any rows cols A fill.length c _ hfm).mono ?_
    rw [HSM.out]
    rintro e w1 ⟨rfl, rfl⟩
    go_wp2_with fail
    refine (l19known_any _ HT.out).mono ?_
    rintro e w1 ⟨rfl, hb⟩
    have HB := Lib.hid hb
    clear hb
    go_wp2_with fail
    go_ret
    exact ⟨rfl, HB.out⟩
  | true =>
    obtain ⟨rr, s, rfl, rfl, ⟨h1, h2⟩, ⟨h3, h4⟩, h5⟩ := small_true hsm
    have HSM := Lib.hid hsm
    clear hsm
    by_cases hl30 : l.length ≤ 30
    case neg =>
      have hgt : (30 : Int) < l.length := by omega
      go_enter Tryd.func8, Tryd.ntmps8
      go_wp2_with fail
      refine (l19small_any rr s A fill.length c _ hfm).mono ?_
      rw [HSM.out]
      rintro e w1 ⟨rfl, rfl⟩
      go_wp2_with fail
      refine (l19known_any _ HT.out).mono ?_
      rintro e w1 ⟨rfl, hb⟩
      have HB := Lib.hid hb
      clear hb
      go_wp2_with fail
      go_ret
      exact ⟨rfl, HB.out⟩
    go_enter Tryd.func8, Tryd.ntmps8
    go_wp2_with fail
    refine (l19small_any rr s A fill.length c _ hfm).mono ?_
    rw [HSM.out]
    rintro e w1 ⟨rfl, rfl⟩
    go_wp2_with fail
    refine (l19begun_base A c fill rr s soft _ HT.out HA.out h1 h2 h3 h4 h5 hs).mono ?_
    rintro e w1 ⟨p, x, rfl, hS⟩
    have hc0 : 0 < s := by omega
    have hcm0 : s ≤ 1000 := by omega
    have HR0 := Lib.hid (begunP_rect rr s fill soft).1
    have hlen0 := (begunP_rect rr s fill soft).2
    obtain ⟨L0, hL0e⟩ : ∃ L0, L0 = begunP rr s fill soft := ⟨_, rfl⟩
    rw [← hL0e] at HR0 hlen0 hS
    have hL0 : 0 < L0.length := by omega
    have hLm0 : L0.length ≤ 1000 := by omega
    have S0 := Lib.hid hS
    clear hS hL0e
    have hc0 : 0 < s := hc0
    go_wp2_with fail
    go_loopw [13] (fun vi wr => ∃ (k : Nat) (L0 : List Ln), k ≤ l.length ∧ vi = .int .i64 k ∧ (Rect s L0 ∧ L0.length = rr) ∧ Objs w wr [.grid p 37 ↑s L0, .grid x 63 ↑s L0]) (fun vi _ => l.length - (intOf vi).toNat)
    case atStart => exact ⟨0, L0, Nat.zero_le _, rfl, ⟨HR0.out, hlen0⟩, S0.out⟩
    case round =>
      clear hL0 hLm0 hlen0 HR0 S0 L0
      obtain ⟨k, L0, hk, rfl, ⟨hR0, hlen0⟩, hS⟩ := hrel
      have HR0 := Lib.hid hR0
      have S := Lib.hid hS
      clear hS hR0
      by_cases hlt : k < l.length
      case neg =>
        go_wp2_with fail
        refine (l19known_any _ (S.out.tabs HT.out)).mono ?_
        rintro e w1 ⟨rfl, hb⟩
        have HB := Lib.hid (S.out.bel hb).base
        clear hb
        go_wp2_with fail
        go_ret
        exact ⟨rfl, HB.out⟩
      have hL0 : 0 < L0.length := by omega
      have hLm0 : L0.length ≤ 1000 := by omega
      obtain ⟨a1, ha1⟩ : ∃ a1, a1 = l[k] := ⟨_, rfl⟩
      have HN1 := Lib.hid (show -9223372036854775808 ≤ a1.n ∧ a1.n ≤ 9223372036854775807 from by rw [ha1]; exact HNL.out _ (List.getElem_mem _))
      obtain ⟨ba, oa, rfl, hba, hre⟩ := HAL.out.at_ (i := k) (r := av19 a1) (by simp [hlt, ha1])
      have hlz : (0 : Int) ≤ (k : Int) := by omega
      have hlz2 : (k : Int) < (l.length : Int) := by omega
      have SZ := Lib.hid (show Objs w _ [.grid p 37 ↑s L0, .grid x 63 ↑s L0, .none, .none] from S.out.addNone2)
      obtain ⟨L1, hL1e⟩ : ∃ L1, L1 = act19N a1 s L0 := ⟨_, rfl⟩
      have hN := act19N_rect (a := a1) HR0.out
      rw [← hL1e] at hN
      have HR1 := Lib.hid hN.1
      have hLm1 : L1.length ≤ 1000000 := by rw [hN.2]; omega
      have HM1 := Lib.hid (HR1.out.mill hcm0)
      have HD := Lib.hid (show ∀ r W, Objs w W (.grid p 37 ↑s L0 :: .grid x 63 ↑s L0 :: r) → Calls Tryd.prog 26 #[.pointer (some ⟨p, 0, none⟩), .pointer (some ⟨x, 0, none⟩), .agg (av19 a1)] W fun e w' => e = .returned (.bool true) ∧ Objs w w' (.grid p 37 ↑s L1 :: .grid x 63 ↑s L1 :: r) from fun r W h => by rw [hL1e]; exact l19does_any a1 HT.out h hc0 hcm0 HR0.out hL0 hLm0 HN1.out)
      have hlen1 : L1.length = rr := by rw [hN.2]; exact hlen0
      clear hN hL1e ha1
      go_upto_region 9 with (fail)
      refine wp_region_stage (w0 := w) (os := []) (by kernel_rfl) (by kernel_rfl) (by kernel_rfl) [(0, 6, [], fun vs => .grid p 37 ↑s L1), (1, 6, [], fun vs => .grid x 63 ↑s L1), (2, 10, [10], fun vs => .lines (vs 10) L1), (1, 14, [14], fun vs => .box x 63 #[.int .i64 ↑s, vs 14]), (3, 14, [14], fun vs => .lines (vs 14) L1)] [[], [], [], [], [], [], [0, 1], [], [], [], [0, 2], [], [], [], [1, 3], [2, 3], [], []] [.grid p 37 ↑s L0, .grid x 63 ↑s L0, .none, .none] (fun i u => match i with | 0 => u = (.pointer (some ⟨p, 0, none⟩) : Value) | 1 => u = (.pointer (some ⟨x, 0, none⟩) : Value) | 2 => u = (.slice (some ⟨ba, oa, none⟩) l.length cl : Value) | 3 => u = (.int .i64 ↑k : Value) | 4 => u = (.pointer (some ⟨ba, oa + k * 18, none⟩) : Value) | 5 => u = (.agg (av19 a1) : Value) | 6 => u = (.bool true : Value) | 7 => u = (.bool false : Value) | 8 => u = (.bool false : Value) | 9 => u = (.pointer (some ⟨p, 0, none⟩) : Value) | 10 => ∃ A c, u = .slice A (L1).length c | 11 => u = (.pointer (some ⟨x, 0, none⟩) : Value) | 12 => u = (.pointer (some ⟨x, 0, none⟩) : Value) | 13 => u = (.pointer (some ⟨x, 1, none⟩) : Value) | 14 => ∃ A c, u = .slice A (L1).length c | 15 => u = (.bool true : Value) | 16 => u = (.bool false : Value) | 17 => u = (.bool false : Value) | _ => True) (fun vs => [.grid p 37 ↑s L1, .box x 63 #[.int .i64 ↑s, vs 14], .lines (vs 10) L1, .lines (vs 14) L1]) (by kernel_rfl) (fun vs => by rfl) SZ.out ?_ ?_
      · refine SSteps.cons (fun a w' vs σ hS hl hs hk => ?_) ?_
        · have e11 : a.tmps.getD 11 undef = (.pointer (some ⟨p, 0, none⟩) : Value) := (sk_old hk 11 (by kernel_rfl)).trans rfl
          have f11 := gd e11
          exact ro_pure (v := .pointer (some ⟨p, 0, none⟩)) (wanted_none rfl) (by simp [execOp, Act.eval, e11, f11, go_sem]) (sp_same (by kernel_rfl) hl hs hS (show (.pointer (some ⟨p, 0, none⟩) : Value) = _ from rfl)) trivial
        refine SSteps.cons (fun a w' vs σ hS hl hs hk => ?_) ?_
        · have e12 : a.tmps.getD 12 undef = (.pointer (some ⟨x, 0, none⟩) : Value) := (sk_old hk 12 (by kernel_rfl)).trans rfl
          have f12 := gd e12
          exact ro_pure (v := .pointer (some ⟨x, 0, none⟩)) (wanted_none rfl) (by simp [execOp, Act.eval, e12, f12, go_sem]) (sp_same (by kernel_rfl) hl hs hS (show (.pointer (some ⟨x, 0, none⟩) : Value) = _ from rfl)) trivial
        refine SSteps.cons (fun a w' vs σ hS hl hs hk => ?_) ?_
        · have e4 : a.tmps.getD 4 undef = (.slice (some ⟨ba, oa, none⟩) l.length cl : Value) := (sk_old hk 4 (by kernel_rfl)).trans rfl
          have f4 := gd e4
          exact ro_pure (v := .slice (some ⟨ba, oa, none⟩) l.length cl) (wanted_none rfl) (by simp [execOp, Act.eval, e4, f4, go_sem]) (sp_same (by kernel_rfl) hl hs hS (show (.slice (some ⟨ba, oa, none⟩) l.length cl : Value) = _ from rfl)) trivial
        refine SSteps.cons (fun a w' vs σ hS hl hs hk => ?_) ?_
        · have e13 : a.tmps.getD 13 undef = (.int .i64 ↑k : Value) := (sk_old hk 13 (by kernel_rfl)).trans rfl
          have f13 := gd e13
          exact ro_pure (v := .int .i64 ↑k) (wanted_none rfl) (by simp [execOp, Act.eval, e13, f13, go_sem]) (sp_same (by kernel_rfl) hl hs hS (show (.int .i64 ↑k : Value) = _ from rfl)) trivial
        refine SSteps.cons (fun a w' vs σ hS hl hs hk => ?_) ?_
        · have e43 : a.tmps.getD 43 undef = (.slice (some ⟨ba, oa, none⟩) l.length cl : Value) := (sk_val hk 2 (by kernel_rfl) rfl rfl).trans ((hk.1 2 (by kernel_rfl)).1)
          have f43 := gd e43
          have e44 : a.tmps.getD 44 undef = (.int .i64 ↑k : Value) := (sk_val hk 3 (by kernel_rfl) rfl rfl).trans ((hk.1 3 (by kernel_rfl)).1)
          have f44 := gd e44
          exact ro_pure (v := .pointer (some ⟨ba, oa + k * 18, none⟩)) (wanted_none rfl) (by simp [execOp, Act.eval, e43, f43, e44, f44, go_sem, hlz, hlz2]) (sp_same (by kernel_rfl) hl hs hS (show (.pointer (some ⟨ba, oa + k * 18, none⟩) : Value) = _ from rfl)) trivial
        refine SSteps.cons (fun a w' vs σ hS hl hs hk => ?_) ?_
        · have e45 : a.tmps.getD 45 undef = (.pointer (some ⟨ba, oa + k * 18, none⟩) : Value) := (sk_val hk 4 (by kernel_rfl) rfl rfl).trans ((hk.1 4 (by kernel_rfl)).1)
          have f45 := gd e45
          have hx := (recAt_below hS.base hba (oa + k * 18) 18).trans hre
          exact ro_pure (v := .agg (av19 a1)) (wanted_none rfl) (by simp [execOp, Act.eval, e45, f45, go_sem, hx]) (sp_same (by kernel_rfl) hl hs hS (show (.agg (av19 a1) : Value) = _ from rfl)) trivial
        refine SSteps.cons (fun a w' vs σ hS hl hs hk => ?_) ?_
        · have e41 : a.tmps.getD 41 undef = (.pointer (some ⟨p, 0, none⟩) : Value) := (sk_val hk 0 (by kernel_rfl) rfl rfl).trans ((hk.1 0 (by kernel_rfl)).1)
          have f41 := gd e41
          have e42 : a.tmps.getD 42 undef = (.pointer (some ⟨x, 0, none⟩) : Value) := (sk_val hk 1 (by kernel_rfl) rfl rfl).trans ((hk.1 1 (by kernel_rfl)).1)
          have f42 := gd e42
          have e46 : a.tmps.getD 46 undef = (.agg (av19 a1) : Value) := (sk_val hk 5 (by kernel_rfl) rfl rfl).trans ((hk.1 5 (by kernel_rfl)).1)
          have f46 := gd e46
          have h0 : σ[0]? = some (.grid p 37 ↑s L0) := hs 0 (by decide)
          have h1 : σ[1]? = some (.grid x 63 ↑s L0) := hs 1 (by decide)
          exact ro_call (f := 26) (wanted_none rfl) rfl (by simp only [List.map_toArray, List.map_cons, List.map_nil, Act.eval, e41, e42, e46] <;> rfl) (fun _ _ => by kernel_rfl) ((front2_call hS (sg h0) (sg h1) (fun r h => HD.out r _ h)).mono fun e w2 ⟨h1, h2⟩ => ⟨_, h1, sp_set2 0 1 _ _ (by decide) (by kernel_rfl) (by simp) (by simp) (by decide) (by decide) hl hs (by rfl) (by rfl) h2 rfl, trivial⟩)
        refine SSteps.cons (fun a w' vs σ hS hl hs hk => ?_) ?_
        · have e47 : a.tmps.getD 47 undef = (.bool true : Value) := (sk_val hk 6 (by kernel_rfl) rfl rfl).trans ((hk.1 6 (by kernel_rfl)).1)
          have f47 := gd e47
          exact ro_pure (v := .bool false) (wanted_none rfl) (by simp [execOp, Act.eval, e47, f47, go_sem]) (sp_same (by kernel_rfl) hl hs hS (show (.bool false : Value) = _ from rfl)) trivial
        refine SSteps.cons (fun a w' vs σ hS hl hs hk => ?_) ?_
        · have e48 : a.tmps.getD 48 undef = (.bool false : Value) := (sk_val hk 7 (by kernel_rfl) rfl rfl).trans ((hk.1 7 (by kernel_rfl)).1)
          have f48 := gd e48
          exact ro_pure (v := .bool false) (wanted_none rfl) (by simp [execOp, Act.eval, e48, f48, go_sem]) (sp_same (by kernel_rfl) hl hs hS (show (.bool false : Value) = _ from rfl)) trivial
        refine SSteps.cons (fun a w' vs σ hS hl hs hk => ?_) ?_
        · have e11 : a.tmps.getD 11 undef = (.pointer (some ⟨p, 0, none⟩) : Value) := (sk_old hk 11 (by kernel_rfl)).trans rfl
          have f11 := gd e11
          exact ro_pure (v := .pointer (some ⟨p, 0, none⟩)) (wanted_yes rfl rfl rfl (show _ = _ from (sk_val hk 8 (by kernel_rfl) rfl rfl).trans ((hk.1 8 (by kernel_rfl)).1))) (by simp [execOp, Act.eval, e11, f11, go_sem]) (sp_same (by kernel_rfl) hl hs hS (show (.pointer (some ⟨p, 0, none⟩) : Value) = _ from rfl)) trivial
        refine SSteps.cons (fun a w' vs σ hS hl hs hk => ?_) ?_
        · have e50 : a.tmps.getD 50 undef = (.pointer (some ⟨p, 0, none⟩) : Value) := (sk_val hk 9 (by kernel_rfl) rfl rfl).trans ((hk.1 9 (by kernel_rfl)).1)
          have f50 := gd e50
          have h0 : σ[0]? = some (.grid p 37 ↑s L1) := hs 0 (by decide)
          have hn : σ[2]? = some .none := hs 2 (by decide)
          exact ro_call (f := 23) (wanted_yes rfl rfl rfl (show _ = _ from (sk_val hk 8 (by kernel_rfl) rfl rfl).trans ((hk.1 8 (by kernel_rfl)).1))) rfl (by simp only [List.map_toArray, List.map_cons, List.map_nil, Act.eval, e50] <;> rfl) (fun _ _ => by kernel_rfl) ((Lines_any hS (sg h0) hc0 HM1.out hLm1).mono fun e w2 ⟨x, h1, h2⟩ => ⟨_, h1, sp_set 2 (.lines x L1) (by kernel_rfl) (by simp) (by decide) hl hs (by rfl) (h2.place (sg hn)) (by obtain ⟨A, c, e, -⟩ := h2.linesRd (k := 0) rfl; exact ⟨A, c, e⟩), trivial⟩)
        refine SSteps.cons (fun a w' vs σ hS hl hs hk => ?_) ?_
        · have e12 : a.tmps.getD 12 undef = (.pointer (some ⟨x, 0, none⟩) : Value) := (sk_old hk 12 (by kernel_rfl)).trans rfl
          have f12 := gd e12
          exact ro_pure (v := .pointer (some ⟨x, 0, none⟩)) (wanted_yes rfl rfl rfl (show _ = _ from (sk_val hk 8 (by kernel_rfl) rfl rfl).trans ((hk.1 8 (by kernel_rfl)).1))) (by simp [execOp, Act.eval, e12, f12, go_sem]) (sp_same (by kernel_rfl) hl hs hS (show (.pointer (some ⟨x, 0, none⟩) : Value) = _ from rfl)) trivial
        refine SSteps.cons (fun a w' vs σ hS hl hs hk => ?_) ?_
        · have e52 : a.tmps.getD 52 undef = (.pointer (some ⟨x, 0, none⟩) : Value) := (sk_val hk 11 (by kernel_rfl) rfl rfl).trans ((hk.1 11 (by kernel_rfl)).1)
          have f52 := gd e52
          exact ro_pure (v := .pointer (some ⟨x, 0, none⟩)) (wanted_yes rfl rfl rfl (show _ = _ from (sk_val hk 8 (by kernel_rfl) rfl rfl).trans ((hk.1 8 (by kernel_rfl)).1))) (by simp [execOp, Act.eval, e52, f52, go_sem]) (sp_same (by kernel_rfl) hl hs hS (show (.pointer (some ⟨x, 0, none⟩) : Value) = _ from rfl)) trivial
        refine SSteps.cons (fun a w' vs σ hS hl hs hk => ?_) ?_
        · have e53 : a.tmps.getD 53 undef = (.pointer (some ⟨x, 0, none⟩) : Value) := (sk_val hk 12 (by kernel_rfl) rfl rfl).trans ((hk.1 12 (by kernel_rfl)).1)
          have f53 := gd e53
          exact ro_pure (v := .pointer (some ⟨x, 1, none⟩)) (wanted_yes rfl rfl rfl (show _ = _ from (sk_val hk 8 (by kernel_rfl) rfl rfl).trans ((hk.1 8 (by kernel_rfl)).1))) (by simp [execOp, Act.eval, e53, f53, go_sem]) (sp_same (by kernel_rfl) hl hs hS (show (.pointer (some ⟨x, 1, none⟩) : Value) = _ from rfl)) trivial
        refine SSteps.cons (fun a w' vs σ hS hl hs hk => ?_) ?_
        · have e54 : a.tmps.getD 54 undef = (.pointer (some ⟨x, 1, none⟩) : Value) := (sk_val hk 13 (by kernel_rfl) rfl rfl).trans ((hk.1 13 (by kernel_rfl)).1)
          have f54 := gd e54
          have h1 : σ[1]? = some (.grid x 63 ↑s L1) := hs 1 (by decide)
          have hn : σ[3]? = some .none := hs 3 (by decide)
          obtain ⟨vL, hO⟩ := hS.openGrid (sg h1)
          obtain ⟨A5, c5, q5, -, -⟩ := hO.linesRd (k := 0) rfl
          subst q5
          have hx := (hO.box (k := 2) (show (_ :: List.set _ _ _)[2]? = _ from set_at (sg h1))).cell
          have hO2 := hO.place (k := 3) (by rw [List.getElem?_set_ne (by decide)]; exact sg hn)
          exact rs_run (v' := .slice A5 (L1).length c5) (w' := w') (wanted_yes rfl rfl rfl (show _ = _ from (sk_val hk 8 (by kernel_rfl) rfl rfl).trans ((hk.1 8 (by kernel_rfl)).1))) (by simp [execOp, Act.eval, e54, f54, go_sem, hx]) (sp_set2 1 3 _ _ (by decide) (by kernel_rfl) (by simp) (by simp) (by decide) (by decide) hl hs (by rfl) (by rfl) hO2 ⟨A5, c5, rfl⟩)
        refine SSteps.cons (fun a w' vs σ hS hl hs hk => ?_) ?_
        · have e51 : a.tmps.getD 51 undef = vs 10 := sk_val hk 10 (by kernel_rfl) rfl rfl
          have p51 : (fun u : Value => ∃ A c, u = .slice A (L1).length c) (vs 10) := (hk.1 10 (by kernel_rfl)).1
          have f51 := gd e51
          have e55 : a.tmps.getD 55 undef = vs 14 := sk_val hk 14 (by kernel_rfl) rfl rfl
          have p55 : (fun u : Value => ∃ A c, u = .slice A (L1).length c) (vs 14) := (hk.1 14 (by kernel_rfl)).1
          have f55 := gd e55
          obtain ⟨A1, c1, q1⟩ := p51
          obtain ⟨A2, c2, q2⟩ := p55
          have h2 : σ[2]? = some (.lines (vs 10) L1) := hs 2 (by decide)
          have h3 : σ[3]? = some (.lines (vs 14) L1) := hs 3 (by decide)
          rw [q1] at h2
          rw [q2] at h3
          have hr1 := (hS.linesRd' (sg h2)).2.2
          have hr2 := (hS.linesRd' (sg h3)).2.2
          have hcon := r14SameLines_any A1 A2 c1 c2 L1 L1 w' hr1 hr2 hLm1 hLm1 HM1.out HM1.out
          rw [show decide (L1 = L1) = true by simp] at hcon
          exact ro_call (f := 22) (wanted_yes rfl rfl rfl (show _ = _ from (sk_val hk 8 (by kernel_rfl) rfl rfl).trans ((hk.1 8 (by kernel_rfl)).1))) rfl (by simp only [List.map_toArray, List.map_cons, List.map_nil, Act.eval, e51, e55, q1, q2] <;> rfl) (fun _ _ => by kernel_rfl) (hcon.mono fun e w2 ⟨h1, h2⟩ => ⟨_, h1, sp_same (by kernel_rfl) hl hs (hS.bel h2) rfl, trivial⟩)
        refine SSteps.cons (fun a w' vs σ hS hl hs hk => ?_) ?_
        · have e56 : a.tmps.getD 56 undef = (.bool true : Value) := (sk_val hk 15 (by kernel_rfl) rfl rfl).trans ((hk.1 15 (by kernel_rfl)).1)
          have f56 := gd e56
          exact ro_pure (v := .bool false) (wanted_yes rfl rfl rfl (show _ = _ from (sk_val hk 8 (by kernel_rfl) rfl rfl).trans ((hk.1 8 (by kernel_rfl)).1))) (by simp [execOp, Act.eval, e56, f56, go_sem]) (sp_same (by kernel_rfl) hl hs hS (show (.bool false : Value) = _ from rfl)) trivial
        refine SSteps.cons (fun a w' vs σ hS hl hs hk => ?_) ?_
        · have e49 : a.tmps.getD 49 undef = (.bool false : Value) := (sk_val hk 8 (by kernel_rfl) rfl rfl).trans ((hk.1 8 (by kernel_rfl)).1)
          have f49 := gd e49
          have e57 : a.tmps.getD 57 undef = (.bool false : Value) := (sk_val hk 16 (by kernel_rfl) rfl rfl).trans ((hk.1 16 (by kernel_rfl)).1)
          have f57 := gd e57
          exact ro_pure (v := .bool false) (wanted_none rfl) (by simp [execOp, Act.eval, e49, f49, e57, f57, go_sem]) (sp_same (by kernel_rfl) hl hs hS (show (.bool false : Value) = _ from rfl)) trivial
        exact SSteps.nil
      · intro vs w' hS hv
        have q0 := (show vs 0 = (.pointer (some ⟨p, 0, none⟩) : Value) from hv 0 (by decide))
        have q1 := (show vs 1 = (.pointer (some ⟨x, 0, none⟩) : Value) from hv 1 (by decide))
        have q2 := (show vs 2 = (.slice (some ⟨ba, oa, none⟩) l.length cl : Value) from hv 2 (by decide))
        have q3 := (show vs 3 = (.int .i64 ↑k : Value) from hv 3 (by decide))
        have q4 := (show vs 4 = (.pointer (some ⟨ba, oa + k * 18, none⟩) : Value) from hv 4 (by decide))
        have q5 := (show vs 5 = (.agg (av19 a1) : Value) from hv 5 (by decide))
        have q6 := (show vs 6 = (.bool true : Value) from hv 6 (by decide))
        have q7 := (show vs 7 = (.bool false : Value) from hv 7 (by decide))
        have q8 := (show vs 8 = (.bool false : Value) from hv 8 (by decide))
        have q9 := (show vs 9 = (.pointer (some ⟨p, 0, none⟩) : Value) from hv 9 (by decide))
        have q11 := (show vs 11 = (.pointer (some ⟨x, 0, none⟩) : Value) from hv 11 (by decide))
        have q12 := (show vs 12 = (.pointer (some ⟨x, 0, none⟩) : Value) from hv 12 (by decide))
        have q13 := (show vs 13 = (.pointer (some ⟨x, 1, none⟩) : Value) from hv 13 (by decide))
        have q15 := (show vs 15 = (.bool true : Value) from hv 15 (by decide))
        have q16 := (show vs 16 = (.bool false : Value) from hv 16 (by decide))
        have q17 := (show vs 17 = (.bool false : Value) from hv 17 (by decide))
        obtain ⟨A9, c9, q9⟩ := (show ∃ A c, vs 10 = .slice A (L1).length c from hv 10 (by decide))
        obtain ⟨A8, c8, q8⟩ := (show ∃ A c, vs 14 = .slice A (L1).length c from hv 14 (by decide))
        have S2 := Lib.hid hS
        simp only [putL, Act.put, Nat.zero_add, Nat.reduceAdd, List.setIfInBounds_toArray, List.set_cons_succ, List.set_cons_zero, q0, q1, q2, q3, q4, q5, q6, q7, q8, q9, q11, q12, q13, q15, q16, q17]
        clear hS hv q0 q1 q2 q3 q4 q5 q6 q7 q8 q9 q11 q12 q13 q15 q16 q17
        simp only [q9, q8]
        have S3 := Lib.hid (close_rows S2.out)
        go_wp2_with fail
        go_roundw
        case rel => exact ⟨k + 1, L1, by omega, by go_num, ⟨HR1.out, hlen1⟩, S3.out⟩
        case measure => simp [intOf]; omega
end Go.Proofs.YtghahanpmcpacaaDoor
