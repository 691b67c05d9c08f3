/-
  PrinterRuns: the law returns true.
-/
import Derived.Test.YtppijfjigcoifaaDoorS4
import Derived.Deep.DeepCutAuto
import Derived.Deep.CutBlock
set_option linter.unusedSimpArgs false
set_option linter.unusedVariables false
namespace Go.Proofs.YtppijfjigcoifaaDoor
open Go.RowKit

set_option maxRecDepth 100000 in
set_option maxHeartbeats 400000000 in
theorem l16PrinterRuns_any (cols : Int) (Al : Option Addr) (cl : Nat) (l : List Int) (q : Pen) (w : World) (hT : Tabs w) (hal : RdI w Al cl l) (hml : cl ≤ maxLen) :
  Calls Tryd.prog 8 #[.int .i64 cols, .slice Al l.length cl, .agg (pv q)] w fun e w' => e = .returned (.bool true) ∧ Below w.heap.size w w' := by
 have HT := Lib.hid hT
 have HAL := Lib.hid hal
 have hlm : l.length ≤ 9223372036854775807 := by have := hal.1; unfold maxLen at hml; omega
 clear hT hal hml
 have hcases : (cols < 1 ∨ (1 ≤ cols ∧ 12 < cols) ∨ ((1 ≤ cols ∧ cols ≤ 12) ∧ 60 < (l.length : Int))) ∨ ((1 ≤ cols ∧ cols ≤ 12) ∧ (l.length : Int) ≤ 60) := by omega
 rcases hcases with hno | ⟨⟨h3, h4⟩, h5⟩
 ·rcases hno with h | ⟨h, h2⟩ | ⟨⟨h, h2⟩, h3⟩
  all_goals
   go_enter Tryd.func8, Tryd.ntmps8
   go_upto_region 1 with (fail)
   refine at_objsC ((objs_start w).alloc1 (c1 := pv q) (t1 := 54)) (fun W hW => ?_)
   have S1 := Lib.hid hW
   clear hW
   go_wp2_with fail
   refine (l16known_any _ (S1.out.tabs HT.out)).mono ?_
   rintro e w1 ⟨rfl, hb⟩
   have HB := Lib.hid (S1.out.bel hb).base
   clear hb S1
   go_wp2_with fail
   go_ret
   exact ⟨rfl, HB.out⟩
 obtain ⟨s, rfl⟩ : ∃ s : Nat, cols = s := ⟨cols.toNat, by omega⟩
 have g3 : 1 ≤ s := by omega
 have g4 : s ≤ 12 := by omega
 have hc0 : 0 < s := by omega
 have hcm0 : s ≤ 1000 := by omega
 have hl60 : l.length ≤ 60 := by omega
 go_enter Tryd.func8, Tryd.ntmps8
 go_upto_region 1 with (fail)
 refine at_objsC ((objs_start w).alloc1 (c1 := pv q) (t1 := 54)) (fun W hW => ?_)
 generalize w.heap.size = b5 at hW ⊢
 have S0 := Lib.hid hW
 clear hW
 have hp5 := (S0.out.box (k := 0) rfl).penAt
 have hp5z := (S0.out.box (k := 0) rfl).lt
 go_wp2_with fail
 clear hp5 hp5z
 cases hq : q.ok with
 | false =>
  have HQ := Lib.hid hq
  clear hq
  refine (show Calls Tryd.prog 36 #[.agg (pv q)] _ _ from (by have hcon := l16valid_any q HT.out S0.out; rw [HQ.out] at hcon; exact hcon)).mono ?_
  rintro e w1 ⟨rfl, hS⟩
  have S1 := Lib.hid hS
  clear hS S0
  go_wp2_with fail
  refine (l16known_any _ (S1.out.tabs HT.out)).mono ?_
  rintro e w1 ⟨rfl, hb⟩
  have HB := Lib.hid (S1.out.bel hb).base
  clear hb S1
  go_wp2_with fail
  go_ret
  exact ⟨rfl, HB.out⟩
 | true =>
 have HQ := Lib.hid hq
 clear hq
 refine (show Calls Tryd.prog 36 #[.agg (pv q)] _ _ from (by have hcon := l16valid_any q HT.out S0.out; rw [HQ.out] at hcon; exact hcon)).mono ?_
 rintro e w1 ⟨rfl, hS⟩
 have S1 := Lib.hid hS
 clear hS S0
 go_wp2_with fail
 refine (show Calls Tryd.prog 14 #[.int .i64 61, .int .i64 ↑s] _ _ from gridNew_yes 61 s (by omega) (by omega) g3 (by omega) w _ _ S1.out).mono ?_
 rintro e w1 ⟨p, rfl, hS⟩
 have S2 := Lib.hid hS
 clear hS S1
 go_wp2_with fail
 refine (show Calls Tryd.prog 21 #[.int .i64 61, .int .i64 ↑s] _ _ from r14New_any 61 s (by omega) (by omega) w _ _ S2.out).mono ?_
 rintro e w2 ⟨x, rfl, hS⟩
 obtain ⟨L0, hL0⟩ : ∃ L0, L0 = List.replicate 61 (List.replicate s (blank pen0), false) := ⟨_, rfl⟩
 have HK0 := Lib.hid (show Kept14 s 61 L0 by rw [hL0]; exact kept14_new s 61)
 rw [← hL0] at hS
 have S3 := Lib.hid hS.swap
 clear hS S2 hL0
 go_upto_region 8 with (fail)
 refine at_objsC (S3.out.alloc1 (c1 := #[.int .i64 0, .int .i64 0, .bool false]) (t1 := 48)) (fun W hW => ?_)
 generalize w2.heap.size = b10 at hW ⊢
 have S4 := Lib.hid (show Objs w W [.grid p 58 ↑s L0, .grid x 33 ↑s L0, .box b10 48 #[.int .i64 ↑(0 : Nat), .int .i64 ↑(curCol s 0), .bool (curPend s 0)], .box b5 54 (pv q)] from by
  rw [show curCol s 0 = 0 by unfold curCol; rw [if_pos hc0], show curPend s 0 = false by unfold curPend; simp; omega]
  exact (Objs.pick (σ := [_, _, _, _]) (os := []) hW [some 1, some 2, some 0, some 3] (by decide) rfl))
 clear hW S3
 go_wp2_with fail
 go_loopg [11, 12, 13] l.length (fun g vr vc vi wr => ∃ (k row col : Nat) (L0 : List Ln), k ≤ l.length ∧ g = l.length - k ∧ row ≤ k ∧ col ≤ s ∧ vr = .int .i64 row ∧ vc = .int .i64 col ∧ vi = .int .i64 k ∧ Hid (Kept14 s 61 L0) ∧ Objs w wr [.grid p 58 ↑s L0, .grid x 33 ↑s L0, .box b10 48 #[.int .i64 ↑row, .int .i64 ↑(curCol s col), .bool (curPend s col)], .box b5 54 (pv q)])
 case atStart => exact ⟨0, 0, 0, L0, Nat.zero_le _, rfl, Nat.zero_le _, Nat.zero_le _, rfl, rfl, rfl, HK0, S4.out⟩
 case round =>
  clear S4 HK0 L0
  obtain ⟨k, row, col, L0, hk, rfl, hrk, hcl, rfl, rfl, rfl, HK0, hS⟩ := hrel
  have S := Lib.hid hS
  clear hS
  have hL0p : 0 < L0.length := by rw [HK0.out.2.1]; omega
  have hL0m : L0.length ≤ 1000 := by rw [HK0.out.2.1]; omega
  by_cases hlt : k < l.length
  case neg =>
   go_upto_region 29 with (fail)
   obtain ⟨vx, hX⟩ := S.out.openGrid (k := 1) rfl
   obtain ⟨Ax, cx, rfl, -, -⟩ := hX.linesRd (k := 0) rfl
   have S6 := Lib.hid hX
   clear hX S
   refine wp_region_stage (w0 := w) (os := []) (by kernel_rfl) (by kernel_rfl) (by kernel_rfl) [(0, 1, [1], fun vs => .lines (vs 1) L0)] [[], [0, 2], [], [], [], [3], [0, 1], [], [], [], []] [.none, .lines (.slice Ax L0.length cx) L0, .grid p 58 ↑s L0, .box x 33 #[.int .i64 ↑s, .slice Ax L0.length cx], .box b10 48 #[.int .i64 ↑row, .int .i64 ↑(curCol s col), .bool (curPend s col)], .box b5 54 (pv q)] (fun opn u => match opn with | 0 => u = .pointer (some ⟨p, 0, none⟩) | 1 => ∃ A c, u = .slice A L0.length c | 2 => u = .pointer (some ⟨x, 0, none⟩) | 3 => u = .pointer (some ⟨x, 0, none⟩) | 4 => u = .pointer (some ⟨x, 1, none⟩) | 5 => u = .slice Ax L0.length cx | 6 => u = .bool true | 7 => u = .bool true | 8 => u = .bool true | 9 => u = .bool true | 10 => u = .bool true | _ => True) (fun vs => [.lines (vs 1) L0, .lines (.slice Ax L0.length cx) L0, .grid p 58 ↑s L0, .box x 33 #[.int .i64 ↑s, .slice Ax L0.length cx], .box b10 48 #[.int .i64 ↑row, .int .i64 ↑(curCol s col), .bool (curPend s col)], .box b5 54 (pv q)]) (by kernel_rfl) (fun vs => by rfl) S6.out.pad ?_ ?_
   ·apply sc
    ·intro a w' vs σ hS hl hs hk
     have f7 : a.tmps[7]?.getD undef = .pointer (some ⟨p, 0, none⟩) := sof hk
     exact rp (pt p 0) (by simp [execOp, Act.eval, f7, go_sem]) hl hs hS
    apply sc
    ·intro a w' vs σ hS hl hs hk
     have e124 : a.tmps.getD 124 undef = .pointer (some ⟨p, 0, none⟩) := svv hk 0
     have h1 : σ[0]? = some .none := hs 0 (by decide)
     exact ro_call (f := 20) (wanted_none rfl) rfl (by simp only [List.map_toArray, List.map_cons, List.map_nil, Act.eval, e124] <;> rfl) (fun _ _ => by kernel_rfl) ((Lines_any hS (k := 2) (sg (hs 2 (by decide))) hc0 (HK0.out.1.mill hcm0) (by omega)).mono fun e w2 ⟨v9, h3, h2⟩ => ⟨v9, h3, sp_set 0 (.lines v9 L0) (by kernel_rfl) (by simp) (by decide) hl hs (by rfl) (h2.place (sg h1)) (by obtain ⟨A8, c8, e8, -, -⟩ := h2.linesRd (k := 0) rfl; exact ⟨A8, c8, e8⟩), trivial⟩)
    apply sc
    ·intro a w' vs σ hS hl hs hk
     have f9 : a.tmps[9]?.getD undef = .pointer (some ⟨x, 0, none⟩) := sof hk
     exact rp (pt x 0) (by simp [execOp, Act.eval, f9, go_sem]) hl hs hS
    apply sc
    ·intro a w' vs σ hS hl hs hk
     have f126 : a.tmps[126]?.getD undef = .pointer (some ⟨x, 0, none⟩) := svf hk 2
     exact rp (pt x 0) (by simp [execOp, Act.eval, f126, go_sem]) hl hs hS
    apply sc
    ·intro a w' vs σ hS hl hs hk
     have f127 : a.tmps[127]?.getD undef = .pointer (some ⟨x, 0, none⟩) := svf hk 3
     exact rp (pt x 1) (by simp [execOp, Act.eval, f127, go_sem]) hl hs hS
    apply sc
    ·intro a w' vs σ hS hl hs hk
     have f128 : a.tmps[128]?.getD undef = .pointer (some ⟨x, 1, none⟩) := svf hk 4
     have hx := (hS.box (sg (hs 3 (by decide)))).cell
     exact rp (.slice Ax L0.length cx) (by simp [execOp, Act.eval, f128, go_sem, hx]) hl hs hS
    apply sc
    ·intro a w' vs σ hS hl hs hk
     have e125 : a.tmps.getD 125 undef = vs 1 := sk_val hk 1 (by kernel_rfl) rfl rfl
     have p125 : (fun u : Value => ∃ A c, u = .slice A L0.length c) (vs 1) := (hk.1 1 (by kernel_rfl)).1
     have e129 : a.tmps.getD 129 undef = .slice Ax L0.length cx := svv hk 5
     obtain ⟨A9, c9, q9⟩ := p125
     rw [q9] at e125
     have h0 : σ[0]? = some (.lines (vs 1) L0) := hs 0 (by decide)
     rw [q9] at h0
     have hcon := r14SameLines_any A9 Ax c9 cx L0 L0 w' (hS.linesRd' (sg h0)).2.2 (hS.linesRd' (sg (hs 1 (by decide)))).2.2 (by omega) (by omega) (HK0.out.1.mill hcm0) (HK0.out.1.mill hcm0)
     rw [show decide (L0 = L0) = true by simp] at hcon
     exact ro_call (f := 19) (wanted_none rfl) rfl (by simp only [List.map_toArray, List.map_cons, List.map_nil, Act.eval, e125, e129] <;> rfl) (fun _ _ => by kernel_rfl) (hcon.mono fun e w2 ⟨h1, h2⟩ => ⟨_, h1, sp_same (by kernel_rfl) hl hs (hS.bel h2) rfl, trivial⟩)
    apply sc
    ·intro a w' vs σ hS hl hs hk
     have f130 : a.tmps[130]?.getD undef = .bool true := svf hk 6
     exact rp (.bool true) (by simp [execOp, Act.eval, f130, go_sem]) hl hs hS
    apply sc
    ·intro a w' vs σ hS hl hs hk
     exact ro_call (f := 30) (wanted_yes rfl rfl rfl (svv hk 7)) rfl (by simp only [List.map_toArray, List.map_cons, List.map_nil, Act.eval] <;> rfl) (fun _ _ => by kernel_rfl) ((l16known_any w' (hS.tabs HT.out)).mono fun e w2 ⟨h1, h2⟩ => ⟨_, h1, sp_same (by kernel_rfl) hl hs (hS.bel h2) rfl, trivial⟩)
    apply sc
    ·intro a w' vs σ hS hl hs hk
     have f131 : a.tmps[131]?.getD undef = .bool true := svf hk 7
     have f132 : a.tmps[132]?.getD undef = .bool true := svf hk 8
     exact rp (.bool true) (by simp [execOp, Act.eval, f131, f132, go_sem]) hl hs hS
    apply sc
    ·intro a w' vs σ hS hl hs hk
     have f133 : a.tmps[133]?.getD undef = .bool true := svf hk 9
     exact rp (.bool true) (by simp [execOp, Act.eval, f133, go_sem]) hl hs hS
    exact SSteps.nil
   ·intro vs w' hS hv
    have q0 : vs 0 = _ := hv 0 (by decide)
    have q2 : vs 2 = _ := hv 2 (by decide)
    have q3 : vs 3 = _ := hv 3 (by decide)
    have q4 : vs 4 = _ := hv 4 (by decide)
    have q5 : vs 5 = _ := hv 5 (by decide)
    have q6 : vs 6 = _ := hv 6 (by decide)
    have q7 : vs 7 = _ := hv 7 (by decide)
    have q8 : vs 8 = _ := hv 8 (by decide)
    have q9 : vs 9 = _ := hv 9 (by decide)
    have q10 : vs 10 = _ := hv 10 (by decide)
    have S2 := Lib.hid hS
    simp only [putL, Act.put, Nat.zero_add, Nat.reduceAdd, List.setIfInBounds_toArray, List.set_cons_succ, List.set_cons_zero, q0, q2, q3, q4, q5, q6, q7, q8, q9, q10]
    clear hS hv q0 q2 q3 q4 q5 q6 q7 q8 q9 q10
    have S9 := S2
    clear S2 S6
    go_wp2_with fail
    go_ret
    exact ⟨rfl, S9.out.base⟩
  obtain ⟨r1, hr1⟩ : ∃ r1, l[k] = r1 := ⟨_, rfl⟩
  obtain ⟨ba, oa, rfl, hba, hre⟩ := HAL.out.at_ hlt
  rw [hr1] at hre
  have HRE := Lib.hid hre
  have hlz : (0 : Int) ≤ (k : Int) := by omega
  have hlz2 : (k : Int) < (l.length : Int) := by omega
  have hre1 := (S.out.base.cell (p := ⟨ba, oa + k, none⟩) hba).trans hre
  obtain ⟨nw, hnw⟩ : ∃ nw, wOf r1 = nw := ⟨_, rfl⟩
  have HW := Lib.hid hnw
  clear hre hr1 hnw
  go_wp2_with fail
  clear hre1
  refine (width_is HW.out _ (S.out.tabs HT.out)).mono ?_
  rintro e w4 ⟨rfl, hb⟩
  have S5 := Lib.hid (S.out.bel hb)
  clear hb S
  have S := S5
  clear S5
  by_cases hnn : nw = 1 ∨ nw = 2
  case neg =>
   have b1 : ((nw : Int) != 1) = true := bne_yes (by omega)
   have b2 : ((nw : Int) != 2) = true := bne_yes (by omega)
   clear hnn
   go_wp2_with fail
   go_roundg (l.length - (k + 1))
   case measure => omega
   case rel => exact ⟨k + 1, row, col, L0, by omega, rfl, by omega, hcl, rfl, rfl, by go_num, HK0, S.out⟩
  have HNW := Lib.hid hnn
  clear hnn
  go_upto_region 13 with (fail)
  go_cut [61] (fun s61 wx => s61 = .bool false ∧ Objs w wx [.grid p 58 ↑s L0, .grid x 33 ↑s L0, .box b10 48 #[.int .i64 ↑row, .int .i64 ↑(curCol s col), .bool (curPend s col)], .box b5 54 (pv q)])
  case first =>
   by_cases h1 : nw = 1
   case pos =>
    have b1 : ((nw : Int) != 1) = false := bne_no h1
    clear h1
    go_wp2_with fail
    go_meet
    case rel => exact ⟨rfl, S.out⟩
   case neg =>
    have b1 : ((nw : Int) != 1) = true := bne_yes h1
    have b2 : ((nw : Int) != 2) = false := bne_no (by have := HNW.out; omega)
    clear h1
    go_wp2_with fail
    go_meet
    case rel => exact ⟨rfl, S.out⟩
  case rest =>
   obtain ⟨rfl, hS⟩ := hcut
   clear S
   have S := Lib.hid hS
   clear hS
   obtain ⟨x0, hx0⟩ : ∃ x0 : Cell, x0 = ⟨r1, 0, 0, 0, wOf r1, q⟩ := ⟨_, rfl⟩
   have HX00 := Lib.hid hx0
   have h12 : x0.width = 1 ∨ x0.width = 2 := by rw [hx0]; show wOf r1 = 1 ∨ wOf r1 = 2; rw [HW.out]; exact HNW.out
   have HX12 := Lib.hid h12
   have HXK := Lib.hid (show x0.ok = true by rw [hx0]; exact of_ok (by have := HNW.out; rw [HW.out]; omega) HQ.out)
   obtain ⟨x1, hx1⟩ : ∃ x1, prCell s x0 = x1 := ⟨_, rfl⟩
   have HX1 := Lib.hid hx1
   obtain ⟨hxw, hxc⟩ := prCell_width (x := x0) hc0 h12
   have hrw := runs_wraps (x := x0) (cols := s) (col := col) hc0 hcl h12
   have hK : x0.width = nw := by rw [hx0]; exact HW.out
   rw [hx1] at hxw hxc hrw
   have HXK2 := Lib.hid (show 1 < s → x1.width = nw from fun h => by
    rw [← hx1]; unfold prCell; rw [if_neg (by omega)]; exact hK)
   have HXN := Lib.hid (show x1.width = (x1.width.toNat : Int) ∧ 1 ≤ x1.width.toNat ∧ x1.width.toNat ≤ 2 ∧ x1.width.toNat ≤ s by rcases hxw with h | h <;> rw [h] at hxc ⊢ <;> simp <;> omega)
   have HXO := Lib.hid (show x1.ok = true by
    rw [← hx1]; unfold prCell; split
    ·rw [ok_blank]; exact ok_penV HXK.out
    ·exact HXK.out)
   have HXZ := Lib.hid (show ¬ x1.width = 0 by omega)
   obtain ⟨bw, hbw⟩ : ∃ bw, decide (s < col + x1.width.toNat) = bw := ⟨_, rfl⟩
   have HBW := Lib.hid hbw
   have HWB := Lib.hid (show wrapB s (curCol s col) (curPend s col) true nw = bw by
    rw [← hbw, Bool.eq_iff_iff, decide_eq_true_eq, ← hrw, hK]
    unfold wrapB
    simp only [Bool.true_and, Bool.or_eq_true, Bool.and_eq_true, decide_eq_true_eq]
    constructor
    ·rintro (h | ⟨⟨h, h2⟩, h3⟩)
     ·exact .inl h
     ·exact .inr ⟨h, h2, by omega⟩
    ·rintro (h | ⟨h, h2, h3⟩)
     ·exact .inl h
     ·exact .inr ⟨⟨h, h2⟩, by omega⟩)
   have HIN := Lib.hid (show inG row (curCol s col) (curPend s col) L0.length s = true from ingrid_iff.2 ⟨by rw [HK0.out.2.1]; omega, by unfold curCol; split <;> omega, fun h => by
    unfold curPend at h
    have := of_decide_eq_true h
    unfold curCol; rw [if_neg this]; omega⟩)
   clear hx0 hx1 hrw h12 hxw hxc hK hbw
   go_upto_region 14 with (fail)
   refine wp_region_stage (w0 := w) (os := []) (by kernel_rfl) (by kernel_rfl) (by kernel_rfl) [] [[], [2], [], [], [], [], [0], [], [], [], [], []] [.grid p 58 ↑s L0, .grid x 33 ↑s L0, .box b10 48 #[.int .i64 ↑row, .int .i64 ↑(curCol s col), .bool (curPend s col)], .box b5 54 (pv q)] (fun opn u => match opn with | 0 => u = .pointer (some ⟨p, 0, none⟩) | 1 => u = .agg #[.int .i64 ↑row, .int .i64 ↑(curCol s col), .bool (curPend s col)] | 2 => u = .slice (some ⟨ba, oa, none⟩) l.length cl | 3 => u = .int .i64 ↑k | 4 => u = .pointer (some ⟨ba, oa + k, none⟩) | 5 => u = .int .i32 r1 | 6 => u = .tuple #[.bool bw, .int .i64 0] | 7 => u = .tuple #[.bool bw, .int .i64 0] | 8 => u = .bool bw | 9 => u = .int .i64 0 | 10 => u = .bool bw | 11 => u = .int .i64 0 | _ => True) (fun vs => [.grid p 58 ↑s L0, .grid x 33 ↑s L0, .box b10 48 #[.int .i64 ↑row, .int .i64 ↑(curCol s col), .bool (curPend s col)], .box b5 54 (pv q)]) (by kernel_rfl) (fun vs => by rfl) S.out ?_ ?_
   ·apply sc
    ·intro a w' vs σ hS hl hs hk
     have f7 : a.tmps[7]?.getD undef = .pointer (some ⟨p, 0, none⟩) := sof hk
     exact rp (pt p 0) (by simp [execOp, Act.eval, f7, go_sem]) hl hs hS
    apply sc
    ·intro a w' vs σ hS hl hs hk
     have f10 : a.tmps[10]?.getD undef = .pointer (some ⟨b10, 0, none⟩) := sof hk
     have hx := (hS.box (sg (hs 2 (by decide)))).cell
     exact rp (.agg #[.int .i64 ↑row, .int .i64 ↑(curCol s col), .bool (curPend s col)]) (by simp [execOp, Act.eval, f10, go_sem, hx]) hl hs hS
    apply sc
    ·intro a w' vs σ hS hl hs hk
     have f1 : a.tmps[1]?.getD undef = .slice (some ⟨ba, oa, none⟩) l.length cl := sof hk
     exact rp (.slice (some ⟨ba, oa, none⟩) l.length cl) (by simp [execOp, Act.eval, f1, go_sem]) hl hs hS
    apply sc
    ·intro a w' vs σ hS hl hs hk
     have f13 : a.tmps[13]?.getD undef = .int .i64 ↑k := sof hk
     exact rp (.int .i64 ↑k) (by simp [execOp, Act.eval, f13, go_sem]) hl hs hS
    apply sc
    ·intro a w' vs σ hS hl hs hk
     have f65 : a.tmps[65]?.getD undef = .slice (some ⟨ba, oa, none⟩) l.length cl := svf hk 2
     have f66 : a.tmps[66]?.getD undef = .int .i64 ↑k := svf hk 3
     exact rp (pt ba (oa + k)) (by simp [execOp, Act.eval, f65, f66, go_sem, hlz, hlz2]) hl hs hS
    apply sc
    ·intro a w' vs σ hS hl hs hk
     have f67 : a.tmps[67]?.getD undef = .pointer (some ⟨ba, oa + k, none⟩) := svf hk 4
     have hx := (hS.base.cell (p := ⟨ba, oa + k, none⟩) hba).trans HRE.out
     exact rp (.int .i32 r1) (by simp [execOp, Act.eval, f67, go_sem, hx]) hl hs hS
    apply sc
    ·intro a w' vs σ hS hl hs hk
     have e63 : a.tmps.getD 63 undef = .pointer (some ⟨p, 0, none⟩) := svv hk 0
     have e64 : a.tmps.getD 64 undef = .agg #[.int .i64 ↑row, .int .i64 ↑(curCol s col), .bool (curPend s col)] := svv hk 1
     have e68 : a.tmps.getD 68 undef = .int .i32 r1 := svv hk 5
     have hcon := prWraps_yes ↑row ↑(curCol s col) (curPend s col) true r1 HT.out hS (k := 0) (sg (hs 0 (by decide))) hc0 hcm0 hL0p HIN.out
     rw [if_neg (by have := HNW.out; rw [HW.out]; omega), HW.out, HWB.out] at hcon
     exact ro_call (f := 37) (wanted_none rfl) rfl (by simp only [List.map_toArray, List.map_cons, List.map_nil, Act.eval, e63, e64, e68] <;> rfl) (fun _ _ => by kernel_rfl) ((hcon).mono fun e w2 ⟨h1, h2⟩ => ⟨_, h1, sp_same (by kernel_rfl) hl hs h2 rfl, trivial⟩)
    apply sc
    ·intro a w' vs σ hS hl hs hk
     have f69 : a.tmps[69]?.getD undef = .tuple #[.bool bw, .int .i64 0] := svf hk 6
     exact rp (.tuple #[.bool bw, .int .i64 0]) (by simp [execOp, Act.eval, f69, go_sem]) hl hs hS
    apply sc
    ·intro a w' vs σ hS hl hs hk
     have f62 : a.tmps[62]?.getD undef = .tuple #[.bool bw, .int .i64 0] := svf hk 7
     exact rp (.bool bw) (by simp [execOp, Act.eval, f62, go_sem]) hl hs hS
    apply sc
    ·intro a w' vs σ hS hl hs hk
     have f62 : a.tmps[62]?.getD undef = .tuple #[.bool bw, .int .i64 0] := svf hk 7
     exact rp (.int .i64 0) (by simp [execOp, Act.eval, f62, go_sem]) hl hs hS
    apply sc
    ·intro a w' vs σ hS hl hs hk
     have f70 : a.tmps[70]?.getD undef = .bool bw := svf hk 8
     exact rp (.bool bw) (by simp [execOp, Act.eval, f70, go_sem]) hl hs hS
    apply sc
    ·intro a w' vs σ hS hl hs hk
     have f71 : a.tmps[71]?.getD undef = .int .i64 0 := svf hk 9
     exact rp (.int .i64 0) (by simp [execOp, Act.eval, f71, go_sem]) hl hs hS
    exact SSteps.nil
   ·intro vs w' hS hv
    have q0 : vs 0 = _ := hv 0 (by decide)
    have q1 : vs 1 = _ := hv 1 (by decide)
    have q2 : vs 2 = _ := hv 2 (by decide)
    have q3 : vs 3 = _ := hv 3 (by decide)
    have q4 : vs 4 = _ := hv 4 (by decide)
    have q5 : vs 5 = _ := hv 5 (by decide)
    have q6 : vs 6 = _ := hv 6 (by decide)
    have q7 : vs 7 = _ := hv 7 (by decide)
    have q8 : vs 8 = _ := hv 8 (by decide)
    have q9 : vs 9 = _ := hv 9 (by decide)
    have q10 : vs 10 = _ := hv 10 (by decide)
    have q11 : vs 11 = _ := hv 11 (by decide)
    have S2 := Lib.hid hS
    simp only [putL, Act.put, Nat.zero_add, Nat.reduceAdd, List.setIfInBounds_toArray, List.set_cons_succ, List.set_cons_zero, q0, q1, q2, q3, q4, q5, q6, q7, q8, q9, q10, q11]
    clear hS hv q0 q1 q2 q3 q4 q5 q6 q7 q8 q9 q10 q11
    have S1 := S2
    clear S2 S
    obtain ⟨row2, hr2⟩ : ∃ row2, (if bw = true then row + 1 else row) = row2 := ⟨_, rfl⟩
    obtain ⟨col2, hc2⟩ : ∃ col2 : Nat, (if bw = true then 0 else col) = col2 := ⟨_, rfl⟩
    have HRR := Lib.hid hr2
    have HCC := Lib.hid hc2
    have HC2 := Lib.hid (show col2 + x1.width.toNat ≤ s ∧ row2 ≤ k + 1 by
     have h5 := HXN.out
     have hb := HBW.out
     cases bw with
     | true => simp at hr2 hc2; omega
     | false => have := of_decide_eq_false hb; simp at hr2 hc2; omega)
    clear hr2 hc2
    go_upto_if 74 with (fail)
    go_cut [13] (fun s13 wx => s13 = .int .i64 ↑k ∧ Objs w wx [.grid p 58 ↑s L0, .grid x 33 ↑s L0, .box b10 48 #[.int .i64 ↑row2, .int .i64 ↑col2, .bool false], .box b5 54 (pv q)])
    case first =>
     have hr2 := HRR.out
     have hc2 := HCC.out
     cases bw with
     | true =>
      obtain rfl : row2 = row + 1 := by simpa using hr2.symm
      obtain rfl : col2 = 0 := by simpa using hc2.symm
      clear hr2 hc2
      obtain ⟨hx10, hf10, hz10⟩ := (S1.out.box (k := 2) rfl).facts
      have hwr1 : IntKind.i64.wrap ((row : Int) + 1) = (row : Int) + 1 := IntWalk.i64_in _ (by omega)
      have SC := Lib.hid (S1.out.setCur 2 (r := ↑row + 1) (c := 0) (b := false) rfl)
      go_wp2_with fail
      go_meet
      case rel => exact ⟨rfl, SC.out⟩
     | false =>
      obtain rfl : row = row2 := by simpa using hr2
      obtain rfl : col = col2 := by simpa using hc2
      clear hr2 hc2
      have HCP := Lib.hid (show curCol s col = col ∧ curPend s col = false by
       have := HXN.out
       have := of_decide_eq_false HBW.out
       unfold curCol curPend
       rw [if_pos (by omega)]
       exact ⟨rfl, by simp; omega⟩)
      have SC := Lib.hid (by have h := S1.out; rw [HCP.out.1, HCP.out.2] at h; exact h)
      go_wp2_with fail
      go_meet
      case rel => exact ⟨rfl, SC.out⟩
    case rest =>
     obtain ⟨rfl, hS⟩ := hcut
     have S2 := Lib.hid hS
     clear hS S1
     have hc2 := HC2.out.1
     have hr2 := HC2.out.2
     have HF := Lib.hid (show ((col2 : Nat) : Int) + x1.width ≤ s by have := HXN.out; omega)
     obtain ⟨hk1, hk2, hk3⟩ := printL_keeps (i := row2) (j := col2) (x0 := x0) (ins := false) HK0.out.1 HK0.out.2.2 hc0 (by have := HXN.out; omega) HX12.out HXK.out
     obtain ⟨hn1, hn2, hn3⟩ := runs_next (x := x1) (col := col2) hc0 HXN.out.2.1 hc2
     obtain ⟨L1, hL1⟩ : ∃ L1, printL row2 col2 s x0 false L0 = L1 := ⟨_, rfl⟩
     obtain ⟨nc, hnc⟩ : ∃ nc, curCol s (col2 + x1.width.toNat) = nc := ⟨_, rfl⟩
     obtain ⟨np, hnp⟩ : ∃ np, curPend s (col2 + x1.width.toNat) = np := ⟨_, rfl⟩
     have HNL := Lib.hid hL1
     have HNC := Lib.hid (show prCol s (prAt s col2 (prCell s x0)) (prCell s x0) = nc by rw [HX1.out, hn1, hn2, hnc])
     have HNP := Lib.hid (show prPend s (prAt s col2 (prCell s x0)) (prCell s x0) true = np by rw [HX1.out, hn1, hn3, hnp])
     have HNC2 := Lib.hid hnc
     have HNP2 := Lib.hid hnp
     have HPUT := Lib.hid (show rowMod row2 (putC col2 x1) L0 = L1 by rw [← hL1]; unfold printL; rw [HX1.out, hn1]; rfl)
     rw [hL1] at hk1 hk2 hk3
     have HK1 := Lib.hid (show Kept14 s 61 L1 from ⟨hk2, hk1.trans HK0.out.2.1, hk3⟩)
     have HIN2 := Lib.hid (show inG row2 col2 false L0.length s = true from ingrid_iff.2 ⟨by rw [HK0.out.2.1]; omega, by have := HXN.out; omega, by simp⟩)
     have HWB2 := Lib.hid (show wrapB s col2 false true nw = false by
      have h5 := HXN.out
      have h6 := HXK2.out
      unfold wrapB
      rw [Bool.eq_false_iff]
      simp only [Bool.true_and, Bool.false_or, ne_eq, Bool.and_eq_true, decide_eq_true_eq]
      rintro ⟨⟨h, h2⟩, h3⟩
      have := h6 h2
      omega)
     clear hk1 hk2 hk3 hn1 hn2 hn3 hL1 hnc hnp hc2 hr2
     go_upto_region 19 with (fail)
     refine wp_region_stage (w0 := w) (os := []) (by kernel_rfl) (by kernel_rfl) (by kernel_rfl) [(0, 7, [], fun vs => .grid p 58 ↑s L1), (2, 11, [], fun vs => .box b10 48 #[.int .i64 ↑row2, .int .i64 ↑nc, .bool np])] [[], [2], [], [], [], [], [3], [0], [], [], [], [2], []] [.grid p 58 ↑s L0, .grid x 33 ↑s L0, .box b10 48 #[.int .i64 ↑row2, .int .i64 ↑col2, .bool false], .box b5 54 (pv q)] (fun opn u => match opn with | 0 => u = .pointer (some ⟨p, 0, none⟩) | 1 => u = .agg #[.int .i64 ↑row2, .int .i64 ↑col2, .bool false] | 2 => u = .slice (some ⟨ba, oa, none⟩) l.length cl | 3 => u = .int .i64 ↑k | 4 => u = .pointer (some ⟨ba, oa + k, none⟩) | 5 => u = .int .i32 r1 | 6 => u = .agg (pv q) | 7 => u = .tuple #[.agg #[.int .i64 ↑row2, .int .i64 ↑nc, .bool np], .int .i64 0] | 8 => u = .tuple #[.agg #[.int .i64 ↑row2, .int .i64 ↑nc, .bool np], .int .i64 0] | 9 => u = .agg #[.int .i64 ↑row2, .int .i64 ↑nc, .bool np] | 10 => u = .int .i64 0 | 11 => True | 12 => u = .int .i64 0 | _ => True) (fun vs => [.grid p 58 ↑s L1, .grid x 33 ↑s L0, .box b10 48 #[.int .i64 ↑row2, .int .i64 ↑nc, .bool np], .box b5 54 (pv q)]) (by kernel_rfl) (fun vs => by rfl) S2.out ?_ ?_
     ·apply sc
      ·intro a w' vs σ hS hl hs hk
       have f7 : a.tmps[7]?.getD undef = .pointer (some ⟨p, 0, none⟩) := sof hk
       exact rp (pt p 0) (by simp [execOp, Act.eval, f7, go_sem]) hl hs hS
      apply sc
      ·intro a w' vs σ hS hl hs hk
       have f10 : a.tmps[10]?.getD undef = .pointer (some ⟨b10, 0, none⟩) := sof hk
       have hx := (hS.box (sg (hs 2 (by decide)))).cell
       exact rp (.agg #[.int .i64 ↑row2, .int .i64 ↑col2, .bool false]) (by simp [execOp, Act.eval, f10, go_sem, hx]) hl hs hS
      apply sc
      ·intro a w' vs σ hS hl hs hk
       have f1 : a.tmps[1]?.getD undef = .slice (some ⟨ba, oa, none⟩) l.length cl := sof hk
       exact rp (.slice (some ⟨ba, oa, none⟩) l.length cl) (by simp [execOp, Act.eval, f1, go_sem]) hl hs hS
      apply sc
      ·intro a w' vs σ hS hl hs hk
       have f13 : a.tmps[13]?.getD undef = .int .i64 ↑k := sof hk
       exact rp (.int .i64 ↑k) (by simp [execOp, Act.eval, f13, go_sem]) hl hs hS
      apply sc
      ·intro a w' vs σ hS hl hs hk
       have f82 : a.tmps[82]?.getD undef = .slice (some ⟨ba, oa, none⟩) l.length cl := svf hk 2
       have f83 : a.tmps[83]?.getD undef = .int .i64 ↑k := svf hk 3
       exact rp (pt ba (oa + k)) (by simp [execOp, Act.eval, f82, f83, go_sem, hlz, hlz2]) hl hs hS
      apply sc
      ·intro a w' vs σ hS hl hs hk
       have f84 : a.tmps[84]?.getD undef = .pointer (some ⟨ba, oa + k, none⟩) := svf hk 4
       have hx := (hS.base.cell (p := ⟨ba, oa + k, none⟩) hba).trans HRE.out
       exact rp (.int .i32 r1) (by simp [execOp, Act.eval, f84, go_sem, hx]) hl hs hS
      apply sc
      ·intro a w' vs σ hS hl hs hk
       have f5 : a.tmps[5]?.getD undef = .pointer (some ⟨b5, 0, none⟩) := sof hk
       have hx := (hS.box (sg (hs 3 (by decide)))).penAt
       exact rp (.agg (pv q)) (by simp [execOp, Act.eval, f5, go_sem, hx]) hl hs hS
      apply sc
      ·intro a w' vs σ hS hl hs hk
       have e80 : a.tmps.getD 80 undef = .pointer (some ⟨p, 0, none⟩) := svv hk 0
       have e81 : a.tmps.getD 81 undef = .agg #[.int .i64 ↑row2, .int .i64 ↑col2, .bool false] := svv hk 1
       have e85 : a.tmps.getD 85 undef = .int .i32 r1 := svv hk 5
       have e86 : a.tmps.getD 86 undef = .agg (pv q) := svv hk 6
       have hcon := Print_yes (i := row2) (j := col2) false true false r1 q HT.out hS (k := 0) (sg (hs 0 (by decide))) hc0 hcm0 hL0p HK0.out.1 HIN2.out (by have := HNW.out; rw [HW.out]; omega) HQ.out (by rw [HW.out]; exact HWB2.out) x0 HX00.out
       rw [HNC.out, HNP.out, HNL.out] at hcon
       exact ro_call (f := 38) (wanted_none rfl) rfl (by simp only [List.map_toArray, List.map_cons, List.map_nil, Act.eval, e80, e81, e85, e86] <;> rfl) (fun _ _ => by kernel_rfl) ((hcon).mono fun e w2 ⟨h1, h2⟩ => ⟨_, h1, sp_set 0 (.grid p 58 ↑s L1) (by kernel_rfl) (by simp) (by decide) hl hs (by rfl) h2 rfl, trivial⟩)
      apply sc
      ·intro a w' vs σ hS hl hs hk
       have f87 : a.tmps[87]?.getD undef = .tuple #[.agg #[.int .i64 ↑row2, .int .i64 ↑nc, .bool np], .int .i64 0] := svf hk 7
       exact rp (.tuple #[.agg #[.int .i64 ↑row2, .int .i64 ↑nc, .bool np], .int .i64 0]) (by simp [execOp, Act.eval, f87, go_sem]) hl hs hS
      apply sc
      ·intro a w' vs σ hS hl hs hk
       have f79 : a.tmps[79]?.getD undef = .tuple #[.agg #[.int .i64 ↑row2, .int .i64 ↑nc, .bool np], .int .i64 0] := svf hk 8
       exact rp (.agg #[.int .i64 ↑row2, .int .i64 ↑nc, .bool np]) (by simp [execOp, Act.eval, f79, go_sem]) hl hs hS
      apply sc
      ·intro a w' vs σ hS hl hs hk
       have f79 : a.tmps[79]?.getD undef = .tuple #[.agg #[.int .i64 ↑row2, .int .i64 ↑nc, .bool np], .int .i64 0] := svf hk 8
       exact rp (.int .i64 0) (by simp [execOp, Act.eval, f79, go_sem]) hl hs hS
      apply sc
      ·intro a w' vs σ hS hl hs hk
       have f10 : a.tmps[10]?.getD undef = .pointer (some ⟨b10, 0, none⟩) := sof hk
       have f88 : a.tmps[88]?.getD undef = .agg #[.int .i64 ↑row2, .int .i64 ↑nc, .bool np] := svf hk 9
       have h1 : σ[2]? = some (.box b10 48 #[.int .i64 ↑row2, .int .i64 ↑col2, .bool false]) := hs 2 (by decide)
       obtain ⟨hx, hf, hz⟩ := (hS.box (sg h1)).facts
       exact rstep_store (w2 := ((w'.setCell ⟨b10, 0, none⟩ (.int .i64 ↑row2)).setCell ⟨b10, 1, none⟩ (.int .i64 ↑nc)).setCell ⟨b10, 2, none⟩ (.bool np)) (wanted_none rfl) rfl (by simp [execOp, Act.eval, f10, f88, hx, hf, hz, go_sem]) (sp_set 2 (.box b10 48 #[.int .i64 ↑row2, .int .i64 ↑nc, .bool np]) (by kernel_rfl) (by simp) (by decide) hl hs (by rfl) (hS.setCur 2 (sg h1)) trivial) trivial
      apply sc
      ·intro a w' vs σ hS hl hs hk
       have f89 : a.tmps[89]?.getD undef = .int .i64 0 := svf hk 10
       exact rp (.int .i64 0) (by simp [execOp, Act.eval, f89, go_sem]) hl hs hS
      exact SSteps.nil
     ·intro vs w' hS hv
      have q0 : vs 0 = _ := hv 0 (by decide)
      have q1 : vs 1 = _ := hv 1 (by decide)
      have q2 : vs 2 = _ := hv 2 (by decide)
      have q3 : vs 3 = _ := hv 3 (by decide)
      have q4 : vs 4 = _ := hv 4 (by decide)
      have q5 : vs 5 = _ := hv 5 (by decide)
      have q6 : vs 6 = _ := hv 6 (by decide)
      have q7 : vs 7 = _ := hv 7 (by decide)
      have q8 : vs 8 = _ := hv 8 (by decide)
      have q9 : vs 9 = _ := hv 9 (by decide)
      have q10 : vs 10 = _ := hv 10 (by decide)
      have q12 : vs 12 = _ := hv 12 (by decide)
      have S3 := Lib.hid hS
      simp only [putL, Act.put, Nat.zero_add, Nat.reduceAdd, List.setIfInBounds_toArray, List.set_cons_succ, List.set_cons_zero, q0, q1, q2, q3, q4, q5, q6, q7, q8, q9, q10, q12]
      clear hS hv q0 q1 q2 q3 q4 q5 q6 q7 q8 q9 q10 q12
      clear S2
      go_upto_region 22 with (fail)
      refine wp_region_stage (w0 := w) (os := []) (by kernel_rfl) (by kernel_rfl) (by kernel_rfl) [(0, 7, [7], fun vs => .box (blkOf (vs 7)) 71 (cv cell0)), (0, 8, [7], fun vs => .box (blkOf (vs 7)) 71 (cv (⟨r1, 0, 0, 0, nw, q⟩ : Cell)))] [[], [], [], [], [], [4], [], [0], [0]] [.none, .grid p 58 ↑s L1, .grid x 33 ↑s L0, .box b10 48 #[.int .i64 ↑row2, .int .i64 ↑nc, .bool np], .box b5 54 (pv q)] (fun opn u => match opn with | 0 => u = .slice (some ⟨ba, oa, none⟩) l.length cl | 1 => u = .int .i64 ↑k | 2 => u = .pointer (some ⟨ba, oa + k, none⟩) | 3 => u = .int .i32 r1 | 4 => u = .int .i64 nw | 5 => u = .agg (pv q) | 6 => u = .agg (cv (⟨r1, 0, 0, 0, nw, q⟩ : Cell)) | 7 => ∃ g, u = .pointer (some ⟨g, 0, none⟩) | 8 => True | _ => True) (fun vs => [.box (blkOf (vs 7)) 71 (cv (⟨r1, 0, 0, 0, nw, q⟩ : Cell)), .grid p 58 ↑s L1, .grid x 33 ↑s L0, .box b10 48 #[.int .i64 ↑row2, .int .i64 ↑nc, .bool np], .box b5 54 (pv q)]) (by kernel_rfl) (fun vs => by rfl) S3.out.pad ?_ ?_
      ·apply sc
       ·intro a w' vs σ hS hl hs hk
        have f1 : a.tmps[1]?.getD undef = .slice (some ⟨ba, oa, none⟩) l.length cl := sof hk
        exact rp (.slice (some ⟨ba, oa, none⟩) l.length cl) (by simp [execOp, Act.eval, f1, go_sem]) hl hs hS
       apply sc
       ·intro a w' vs σ hS hl hs hk
        have f13 : a.tmps[13]?.getD undef = .int .i64 ↑k := sof hk
        exact rp (.int .i64 ↑k) (by simp [execOp, Act.eval, f13, go_sem]) hl hs hS
       apply sc
       ·intro a w' vs σ hS hl hs hk
        have f92 : a.tmps[92]?.getD undef = .slice (some ⟨ba, oa, none⟩) l.length cl := svf hk 0
        have f93 : a.tmps[93]?.getD undef = .int .i64 ↑k := svf hk 1
        exact rp (pt ba (oa + k)) (by simp [execOp, Act.eval, f92, f93, go_sem, hlz, hlz2]) hl hs hS
       apply sc
       ·intro a w' vs σ hS hl hs hk
        have f94 : a.tmps[94]?.getD undef = .pointer (some ⟨ba, oa + k, none⟩) := svf hk 2
        have hx := (hS.base.cell (p := ⟨ba, oa + k, none⟩) hba).trans HRE.out
        exact rp (.int .i32 r1) (by simp [execOp, Act.eval, f94, go_sem, hx]) hl hs hS
       apply sc
       ·intro a w' vs σ hS hl hs hk
        have f14 : a.tmps[14]?.getD undef = .int .i64 nw := sof hk
        exact rp (.int .i64 nw) (by simp [execOp, Act.eval, f14, go_sem]) hl hs hS
       apply sc
       ·intro a w' vs σ hS hl hs hk
        have f5 : a.tmps[5]?.getD undef = .pointer (some ⟨b5, 0, none⟩) := sof hk
        have hx := (hS.box (sg (hs 4 (by decide)))).penAt
        exact rp (.agg (pv q)) (by simp [execOp, Act.eval, f5, go_sem, hx]) hl hs hS
       apply sc
       ·intro a w' vs σ hS hl hs hk
        have f95 : a.tmps[95]?.getD undef = .int .i32 r1 := svf hk 3
        have f96 : a.tmps[96]?.getD undef = .int .i64 nw := svf hk 4
        have f97 : a.tmps[97]?.getD undef = .agg (pv q) := svf hk 5
        exact rp (.agg (cv (⟨r1, 0, 0, 0, nw, q⟩ : Cell))) (by simp [execOp, Act.eval, f95, f96, f97, go_sem, cv_ne]) hl hs hS
       apply sc
       ·intro a w' vs σ hS hl hs hk
        have h1 : σ[0]? = some .none := hs 0 (by decide)
        exact rs_run (v' := .pointer (some ⟨w'.heap.size, 0, none⟩)) (w' := w'.alloc (.cells (cv cell0) 71)) (wanted_none rfl) (by first | (simp [execOp, go_sem]; done) | (simp [execOp, go_sem]; rfl) | rfl) (sp_set 0 (.box w'.heap.size 71 (cv cell0)) (by kernel_rfl) (by simp) (by decide) hl hs (by rfl) (hS.alloc1.place (sg h1)) ⟨_, rfl⟩)
       apply sc
       ·intro a w' vs σ hS hl hs hk
        have e17 : a.tmps.getD 17 undef = vs 7 := sk_val hk 7 (by kernel_rfl) rfl rfl
        have p17 : (fun u : Value => ∃ g, u = .pointer (some ⟨g, 0, none⟩)) (vs 7) := (hk.1 7 (by kernel_rfl)).1
        have f17 := gd e17
        have f98 : a.tmps[98]?.getD undef = .agg (cv (⟨r1, 0, 0, 0, nw, q⟩ : Cell)) := svf hk 6
        obtain ⟨g9, q9⟩ := p17
        have h1 : σ[0]? = some (.box (blkOf (vs 7)) 71 (cv cell0)) := hs 0 (by decide)
        rw [q9, show blkOf (.pointer (some ⟨g9, 0, none⟩)) = g9 from rfl] at h1
        have hst := store_cv_row w' g9 (cv cell0) (⟨r1, 0, 0, 0, nw, q⟩ : Cell) (hS.box (sg h1)) (cv_size _)
        exact rstep_store (w2 := w'.setRow g9 (cv (⟨r1, 0, 0, 0, nw, q⟩ : Cell))) (wanted_none rfl) rfl (by simp [execOp, Act.eval, e17, f17, f98, q9, hst, go_sem]) (sp_set 0 (.box g9 71 (cv (⟨r1, 0, 0, 0, nw, q⟩ : Cell))) (by kernel_rfl) (by simp) (by decide) hl hs (by show Ob.box (blkOf (vs 7)) 71 (cv (⟨r1, 0, 0, 0, nw, q⟩ : Cell)) = _; rw [q9]; rfl) (hS.rowBox 0 (ds := cv (⟨r1, 0, 0, 0, nw, q⟩ : Cell)) (sg h1)) trivial) trivial
       exact SSteps.nil
      ·intro vs w' hS hv
       have q0 : vs 0 = _ := hv 0 (by decide)
       have q1 : vs 1 = _ := hv 1 (by decide)
       have q2 : vs 2 = _ := hv 2 (by decide)
       have q3 : vs 3 = _ := hv 3 (by decide)
       have q4 : vs 4 = _ := hv 4 (by decide)
       have q5 : vs 5 = _ := hv 5 (by decide)
       have q6 : vs 6 = _ := hv 6 (by decide)
       obtain ⟨b17, q7⟩ := (show ∃ g, vs 7 = .pointer (some ⟨g, 0, none⟩) from hv 7 (by decide))
       rw [q7, show blkOf (.pointer (some ⟨b17, 0, none⟩)) = b17 from rfl] at hS
       have S4 := Lib.hid hS
       simp only [putL, Act.put, Nat.zero_add, Nat.reduceAdd, List.setIfInBounds_toArray, List.set_cons_succ, List.set_cons_zero, q0, q1, q2, q3, q4, q5, q6]
       clear hS hv q0 q1 q2 q3 q4 q5 q6
       simp only [q7]
       clear S3 q7
       go_upto_region 23 with (fail)
       obtain ⟨bb, hbb⟩ : ∃ bb, decide (s = 1 ∧ nw = 2) = bb := ⟨_, rfl⟩
       have HBB := Lib.hid hbb
       clear hbb
       go_cut [104] (fun s104 wx => s104 = .bool bb ∧ Objs w wx [.box b17 71 (cv (⟨r1, 0, 0, 0, nw, q⟩ : Cell)), .grid p 58 ↑s L1, .grid x 33 ↑s L0, .box b10 48 #[.int .i64 ↑row2, .int .i64 ↑nc, .bool np], .box b5 54 (pv q)])
       case first =>
        by_cases h1 : s = 1
        case neg =>
         have hb1 : ((s : Int) == 1) = false := beq_no (by omega)
         have HD := Lib.hid (show bb = false by rw [← HBB.out]; exact decide_eq_false (fun h => h1 h.1))
         clear h1
         go_wp2_with fail
         go_meet
         case rel => exact ⟨by rw [HD.out], S4.out⟩
        case pos =>
         have hb1 : ((s : Int) == 1) = true := beq_yes (by omega)
         by_cases h2 : nw = 2
         case neg =>
          have hb2 : ((nw : Int) == 2) = false := beq_no h2
          have HD := Lib.hid (show bb = false by rw [← HBB.out]; exact decide_eq_false (fun h => h2 h.2))
          clear h1 h2
          go_wp2_with fail
          go_meet
          case rel => exact ⟨by rw [HD.out], S4.out⟩
         case pos =>
          have hb2 : ((nw : Int) == 2) = true := beq_yes h2
          have HD := Lib.hid (show bb = true by rw [← HBB.out]; exact decide_eq_true ⟨h1, h2⟩)
          clear h1 h2
          go_wp2_with fail
          go_meet
          case rel => exact ⟨by rw [HD.out], S4.out⟩
       case rest =>
        obtain ⟨rfl, hS⟩ := hcut
        have S4b := Lib.hid hS
        clear hS S4
        go_upto_if 104 with (fail)
        go_cut [13] (fun s13 wx => s13 = .int .i64 ↑k ∧ Objs w wx [.box b17 71 (cv x1), .grid p 58 ↑s L1, .grid x 33 ↑s L0, .box b10 48 #[.int .i64 ↑row2, .int .i64 ↑nc, .bool np], .box b5 54 (pv q)])
        case first =>
         cases bb with
         | true =>
          have HSB := Lib.hid (of_decide_eq_true HBB.out)
          have HB := Lib.hid (show x1 = blank q by rw [← HX1.out]; unfold prCell; rw [if_pos (by rw [HX00.out]; show (s : Int) < wOf r1; rw [HW.out]; have := HSB.out; omega), HX00.out])
          have hpz := (S4b.out.box (k := 4) rfl).penAt
          have hpz2 := (S4b.out.box (k := 4) rfl).lt
          go_wp2_with fail
          clear hpz hpz2
          refine (r14Blank_any q _).mono ?_
          rintro e w5 ⟨rfl, hb⟩
          have hS := S4b.out.bel hb
          have hst := store_cv_row w5 b17 (cv (⟨r1, 0, 0, 0, nw, q⟩ : Cell)) (blank q) (hS.box (k := 0) rfl) (cv_size _)
          have S5 := Lib.hid (show Objs w (w5.setRow b17 (cv (blank q))) [.box b17 71 (cv x1), .grid p 58 ↑s L1, .grid x 33 ↑s L0, .box b10 48 #[.int .i64 ↑row2, .int .i64 ↑nc, .bool np], .box b5 54 (pv q)] from by rw [HB.out]; exact hS.rowBox 0 (ds := cv (blank q)) rfl)
          clear hb hS S4b HB
          go_wp2_with fail
          go_meet
          case rel => exact ⟨rfl, S5.out⟩
         | false =>
          have HSB := Lib.hid (of_decide_eq_false HBB.out)
          have HB := Lib.hid (show x1 = (⟨r1, 0, 0, 0, nw, q⟩ : Cell) by rw [← HX1.out]; unfold prCell; rw [if_neg (by rw [HX00.out]; show ¬ (s : Int) < wOf r1; rw [HW.out]; have := HNW.out; have := HSB.out; omega), HX00.out, HW.out])
          have S5 := Lib.hid (show Objs w _ [.box b17 71 (cv x1), .grid p 58 ↑s L1, .grid x 33 ↑s L0, .box b10 48 #[.int .i64 ↑row2, .int .i64 ↑nc, .bool np], .box b5 54 (pv q)] from by rw [HB.out]; exact S4b.out)
          clear S4b HB
          go_wp2_with fail
          go_meet
          case rel => exact ⟨rfl, S5.out⟩
        case rest =>
         obtain ⟨rfl, hS⟩ := hcut
         have S5 := Lib.hid hS
         clear hS S4b
         go_upto_region 25 with (fail)
         cases bw with
         | true =>
          focus
           obtain rfl : row2 = row + 1 := by have h := HRR.out; simpa using h.symm
           obtain rfl : col2 = 0 := by have h := HCC.out; simpa using h.symm
           have hbw := HBW.out
           have hwa : IntKind.i64.wrap ((col : Int) + x1.width) = (col : Int) + x1.width := IntWalk.i64_in _ (by have := HXN.out; omega)
           have d1 : decide ((s : Int) < (col : Int) + x1.width) = true := decide_eq_true (by have := HXN.out; have := of_decide_eq_true hbw; omega)
           have hwr1 : IntKind.i64.wrap ((row : Int) + 1) = (row : Int) + 1 := IntWalk.i64_in _ (by omega)
           have hwa2 : IntKind.i64.wrap (0 + x1.width) = x1.width := by rw [Int.zero_add]; exact IntWalk.i64_in _ (by have := HXN.out; omega)
           have hwa3 : IntKind.i64.wrap x1.width = x1.width := IntWalk.i64_in _ (by have := HXN.out; omega)
           have hw17 := (S5.out.box (k := 0) rfl).width4
           obtain ⟨-, hf17, hz17⟩ := (S5.out.box (k := 0) rfl).facts
           have hc17 := (S5.out.box (k := 0) rfl).cellAt
           clear hbw
           go_wp2_with fail
           clear hw17 hf17 hz17 hc17 d1
           refine (show Calls Tryd.prog 34 #[.pointer (some ⟨x, 0, none⟩), .int .i64 (↑row + 1), .int .i64 0, .agg (cv x1)] _ _ from (r14PutG (i := (row + 1)) (j := 0) x1 S5.out (k := 2) rfl hcm0 HK0.out.1 (by rw [HK0.out.2.1]; have := HC2.out.2; omega) HXO.out HXZ.out HF.out)).mono ?_
           rintro e w6 ⟨rfl, hS⟩
           rw [HPUT.out] at hS
           have S6 := Lib.hid (show Objs w w6 [.box b17 71 (cv x1), .grid p 58 ↑s L1, .grid x 33 ↑s L1, .box b10 48 #[.int .i64 ↑(row + 1), .int .i64 ↑nc, .bool np], .box b5 54 (pv q)] from hS)
           clear hS S5
           have hw17 := (S6.out.box (k := 0) rfl).width4
           obtain ⟨-, hf17, hz17⟩ := (S6.out.box (k := 0) rfl).facts
           go_wp2_with fail
           clear hwa hwr1 hwa2 hwa3
           go_roundg (l.length - (k + 1))
           case measure => omega
           case rel => exact ⟨k + 1, (row + 1), 0 + x1.width.toNat, L1, by omega, rfl, by have := HC2.out.2; omega, by have := HC2.out.1; omega, rfl, congrArg (Value.int .i64) (by have := HXN.out; omega), by go_num, HK1, by rw [HNC2.out, HNP2.out]; exact S6.out.tail⟩
         | false =>
          focus
           obtain rfl : row = row2 := by have h := HRR.out; simpa using h
           obtain rfl : col = col2 := by have h := HCC.out; simpa using h
           have hbw := HBW.out
           have hwa : IntKind.i64.wrap ((col : Int) + x1.width) = (col : Int) + x1.width := IntWalk.i64_in _ (by have := HXN.out; omega)
           have d1 : decide ((s : Int) < (col : Int) + x1.width) = false := decide_eq_false (by have := HXN.out; have := of_decide_eq_false hbw; omega)
           have hw17 := (S5.out.box (k := 0) rfl).width4
           obtain ⟨-, hf17, hz17⟩ := (S5.out.box (k := 0) rfl).facts
           have hc17 := (S5.out.box (k := 0) rfl).cellAt
           clear hbw
           go_wp2_with fail
           clear hw17 hf17 hz17 hc17 d1
           refine (show Calls Tryd.prog 34 #[.pointer (some ⟨x, 0, none⟩), .int .i64 (↑row), .int .i64 ↑col, .agg (cv x1)] _ _ from (r14PutG (i := row) (j := col) x1 S5.out (k := 2) rfl hcm0 HK0.out.1 (by rw [HK0.out.2.1]; have := HC2.out.2; omega) HXO.out HXZ.out HF.out)).mono ?_
           rintro e w6 ⟨rfl, hS⟩
           rw [HPUT.out] at hS
           have S6 := Lib.hid (show Objs w w6 [.box b17 71 (cv x1), .grid p 58 ↑s L1, .grid x 33 ↑s L1, .box b10 48 #[.int .i64 ↑row, .int .i64 ↑nc, .bool np], .box b5 54 (pv q)] from hS)
           clear hS S5
           have hw17 := (S6.out.box (k := 0) rfl).width4
           obtain ⟨-, hf17, hz17⟩ := (S6.out.box (k := 0) rfl).facts
           go_wp2_with fail
           clear hwa
           go_roundg (l.length - (k + 1))
           case measure => omega
           case rel => exact ⟨k + 1, row, col + x1.width.toNat, L1, by omega, rfl, by have := HC2.out.2; omega, by have := HC2.out.1; omega, rfl, congrArg (Value.int .i64) (by have := HXN.out; omega), by go_num, HK1, by rw [HNC2.out, HNP2.out]; exact S6.out.tail⟩
end Go.Proofs.YtppijfjigcoifaaDoor
