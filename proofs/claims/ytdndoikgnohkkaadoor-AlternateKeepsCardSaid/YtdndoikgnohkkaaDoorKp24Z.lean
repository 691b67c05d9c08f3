/-
  AlternateKeeps: the law returns true.
-/
import Derived.Test.YtdndoikgnohkkaaDoorA4
set_option linter.unusedSimpArgs false
set_option linter.unusedVariables false
namespace Go.Proofs.YtdndoikgnohkkaaDoor
open Go.RowKit

@[go_sem] theorem fill_keep (a n : Int) (s : Saved) : Array.foldl (fun cs x => cs.setIfInBounds (20 + x.snd) x.fst) (#[.int .i64 a, .int .i64 n, .int .i64 0, .int .i64 0, .int .i32 0, .int .i32 0, .int .i32 0, .int .i32 0, .int .i64 0, .int .i64 0, .int .u8 0, .int .u8 0, .int .u8 0, .int .u8 0, .int .i64 0, .int .u8 0, .int .u8 0, .int .u8 0, .int .u8 0, .int .u8 0, .int .i64 0, .int .i64 0, .bool false, .int .i64 0, .int .u8 0, .int .u8 0, .int .u8 0, .int .u8 0, .int .i64 0, .int .u8 0, .int .u8 0, .int .u8 0, .int .u8 0, .int .u8 0, .bool false, .int .i64 0, .int .i64 0, .int .i64 0, .int .i64 0, .int .u8 0, .int .u8 0, .int .u8 0, .int .u8 0, .int .i64 0, .int .u8 0, .int .u8 0, .int .u8 0, .int .u8 0, .int .u8 0, .slice none 0 0] : Array Value) (sv s).zipIdx 0 18 = av24 ⟨a, n, 0, 0, cell0, s, pen0, none, 0, []⟩ := by
 simp [sv, av24, Array.zipIdx, cell0, pen0]
theorem entS_good {s : Pr} {rr : Nat} {n : Int} {x : Saved} {q : Pen} (h : s.good rr) : (entS n x q s).good rr := by
 unfold entS
 split
 ·rename_i he
  refine entN_good h (fun hn => ?_)
  unfold entE at he
  split at he
  ·cases he
  ·rename_i h1
   exact ((Classical.not_not.1 h1).2 hn).2
 ·exact h
theorem lvSt_good {s : Pr} {rr : Nat} {n : Int} {q : Pen} (h : s.good rr) : (lvSt n q s).good rr := by
 unfold lvSt
 split
 ·rename_i he
  refine lvN_good h (fun hn => ?_)
  unfold lvE at he
  split at he
  ·cases he
  ·rename_i h1
   exact (Classical.not_not.1 h1).2 hn
 ·exact h
set_option maxRecDepth 100000 in
set_option maxHeartbeats 8000000 in
theorem l24AlternateKeeps_any (Am : Option Addr) (cm : Nat) (lm : List Int) (As : Option Addr) (cs : Nat) (ls : List Saved) (w : World) (hT : Tabs w) (hm : RdRec w Am cm 1 (lm.map iv1)) (hmm : cm ≤ maxLen) (hs : RdRec w As cs 18 (ls.map sv)) (hsm : cs ≤ maxLen) :
  Calls Tryd.prog 6 #[.slice Am lm.length cm, .slice As ls.length cs] w fun e w' => e = .returned (.bool true) ∧ Below w.heap.size w w' := by
 have HT := Lib.hid hT
 have HM := Lib.hid hm
 have HS := Lib.hid hs
 have hlm : lm.length ≤ 9223372036854775807 := by have := hm.1; unfold maxLen at hmm; simp at this; omega
 have hls : ls.length ≤ 9223372036854775807 := by have := hs.1; unfold maxLen at hsm; simp at this; omega
 clear hT hm hs hmm hsm
 have hc : ((40 : Int) < lm.length ∨ ((lm.length : Int) ≤ 40 ∧ (ls.length : Int) < lm.length)) ∨ ((lm.length : Int) ≤ 40 ∧ (lm.length : Int) ≤ ls.length) := by omega
 rcases hc with hc | ⟨hc, hc2⟩
 ·rcases hc with hc | ⟨hc, hc2⟩
  all_goals
   go_enter Tryd.func6, Tryd.ntmps6
   go_wp2_with fail
   refine (l24known_any _ HT.out).mono ?_
   rintro e w1 ⟨rfl, hb⟩
   go_wp2_with fail
   go_ret
   exact ⟨rfl, hb⟩
 have g1 : ¬ (40 : Int) < lm.length := by omega
 have g2 : ¬ (ls.length : Int) < lm.length := by omega
 go_enter Tryd.func6, Tryd.ntmps6
 go_wp2_with fail
 refine (pairNew_yes (w0 := w) (os := []) 1 2 (by decide) (by decide) (by decide) (by decide) (objs_start w)).mono ?_
 rintro e w1 ⟨p, rfl, hS⟩
 have S1 := Lib.hid hS
 clear hS
 go_wp2_with fail
 refine (refNew_yes 1 2 (by decide) (by decide) S1.out).mono ?_
 rintro e w2 ⟨x, rfl, hS⟩
 have S2 := Lib.hid hS
 clear hS S1
 go_wp2_with fail
 go_loopw [8] (fun v wr => ∃ (k : Nat) (s : Pr), k ≤ lm.length ∧ v = .int .i64 k ∧ Hid (s.good 1) ∧ Objs w wr [pairO p s, refO x s]) (fun v _ => lm.length - (intOf v).toNat)
 case atStart => exact ⟨0, newP 1 2, Nat.zero_le _, rfl, Lib.hid (newP_good (by decide) (by decide) (by decide) (by decide)), S2.out.swap⟩
 case round =>
  clear S2
  obtain ⟨k, s, hk, rfl, HG, hS⟩ := hrel
  have S1 := Lib.hid hS
  clear hS
  by_cases hlt : k < lm.length
  case neg =>
   have hlt1 : ¬ (k : Int) < lm.length := by omega
   go_wp2_with fail
   refine (l24known_any _ (S1.out.tabs HT.out)).mono ?_
   rintro e w3 ⟨rfl, hb⟩
   have HB := Lib.hid (S1.out.bel hb).base
   clear hb
   go_wp2_with fail
   go_ret
   exact ⟨rfl, HB.out⟩
  have hk0 : (0 : Int) ≤ (k : Int) := by omega
  have hk1 : (k : Int) < (lm.length : Int) := by omega
  have hk2 : (k : Int) < (ls.length : Int) := by omega
  obtain ⟨n1, hn1⟩ := get_of hlt
  obtain ⟨s1, hs1⟩ := get_of (show k < ls.length by omega)
  obtain ⟨bm, om, rfl, hzm, hrm⟩ := HM.out.at_ (i := k) (r := iv1 n1) (by simp [hn1])
  obtain ⟨bs, ob, rfl, hzs, hrs⟩ := HS.out.at_ (i := k) (r := sv s1) (by simp [hs1])
  have hcm : w.cell? ⟨bm, om + k, none⟩ = some (.int .i64 n1) := by have := (range_of_recAt hrm).2 0 _ rfl; simpa using this
  clear hn1 hs1 hrm
  have hpp : (k : Int).tmod 2 = 0 ∨ (k : Int).tmod 2 = 1 := by rw [Int.tmod_eq_emod_of_nonneg hk0]; omega
  rcases hpp with hpar | hpar
  ·have hw12 : IntKind.i64.wrap 1 = 1 := IntWalk.i64_in _ (by omega)
   have HG2 := Lib.hid (entS_good (n := n1) (x := s1) (q := pen0) HG.out)
   go_upto_region 10 with (fail)
   refine wp_region_stage (w0 := w) (os := []) (by kernel_rfl) (by kernel_rfl) (by kernel_rfl) [(0, 14, [], fun vs => pairO p (entS n1 s1 pen0 s)), (1, 14, [], fun vs => refO x (entS n1 s1 pen0 s)), (0, 19, [], fun vs => pairO p (entS n1 s1 pen0 s)), (1, 19, [], fun vs => refO x (entS n1 s1 pen0 s))] [[], [], [], [], [], [], [], [], [], [], [], [], [], [], [0, 1], [], [], [], [], [0, 1], [], []] [pairO p s, refO x s] (fun opn u => match opn with | 0 => u = .pointer (some ⟨p, 0, none⟩) | 1 => u = .pointer (some ⟨x, 0, none⟩) | 2 => u = .int .i64 ↑k | 3 => u = .int .i64 0 | 4 => u = .int .i64 1 | 5 => u = .slice (some ⟨bm, om, none⟩) lm.length cm | 6 => u = .int .i64 ↑k | 7 => u = .pointer (some ⟨bm, om + k, none⟩) | 8 => u = .int .i64 n1 | 9 => u = .slice (some ⟨bs, ob, none⟩) ls.length cs | 10 => u = .int .i64 ↑k | 11 => u = .pointer (some ⟨bs, ob + k * 18, none⟩) | 12 => u = .agg (sv s1) | 13 => u = .agg (av24 ⟨1, n1, 0, 0, cell0, s1, pen0, none, 0, []⟩) | 14 => u = .bool true | 15 => u = .bool false | 16 => u = .bool false | 17 => u = .pointer (some ⟨p, 0, none⟩) | 18 => u = .pointer (some ⟨x, 0, none⟩) | 19 => u = .bool true | 20 => u = .bool false | 21 => u = .bool false | _ => True) (fun vs => [pairO p (entS n1 s1 pen0 s), refO x (entS n1 s1 pen0 s)]) (by kernel_rfl) (fun vs => by rfl) S1.out ?_ ?_
   ·apply sc
    ·intro a w' vs σ hS hl hs hk
     have f5 : a.tmps[5]?.getD undef = .pointer (some ⟨p, 0, none⟩) := sof hk
     exact rp (pt p 0) (by simp [execOp, Act.eval, f5, go_sem]) hl hs hS
    apply sc
    ·intro a w' vs σ hS hl hs hk
     have f7 : a.tmps[7]?.getD undef = .pointer (some ⟨x, 0, none⟩) := sof hk
     exact rp (pt x 0) (by simp [execOp, Act.eval, f7, go_sem]) hl hs hS
    apply sc
    ·intro a w' vs σ hS hl hs hk
     have f8 : a.tmps[8]?.getD undef = .int .i64 ↑k := sof hk
     exact rp (.int .i64 ↑k) (by simp [execOp, Act.eval, f8, go_sem]) hl hs hS
    apply sc
    ·intro a w' vs σ hS hl hs hk
     have f39 : a.tmps[39]?.getD undef = .int .i64 ↑k := sf hk 2
     exact rp (.int .i64 0) (by simp [execOp, Act.eval, f39, go_sem, hpar]) hl hs hS
    apply sc
    ·intro a w' vs σ hS hl hs hk
     have f40 : a.tmps[40]?.getD undef = .int .i64 0 := sf hk 3
     exact rp (.int .i64 1) (by simp [execOp, Act.eval, f40, go_sem, hw12]) hl hs hS
    apply sc
    ·intro a w' vs σ hS hl hs hk
     have f0 : a.tmps[0]?.getD undef = .slice (some ⟨bm, om, none⟩) lm.length cm := sof hk
     exact rp (.slice (some ⟨bm, om, none⟩) lm.length cm) (by simp [execOp, Act.eval, f0, go_sem]) hl hs hS
    apply sc
    ·intro a w' vs σ hS hl hs hk
     have f8 : a.tmps[8]?.getD undef = .int .i64 ↑k := sof hk
     exact rp (.int .i64 ↑k) (by simp [execOp, Act.eval, f8, go_sem]) hl hs hS
    apply sc
    ·intro a w' vs σ hS hl hs hk
     have f42 : a.tmps[42]?.getD undef = .slice (some ⟨bm, om, none⟩) lm.length cm := sf hk 5
     have f43 : a.tmps[43]?.getD undef = .int .i64 ↑k := sf hk 6
     exact rp (pt bm (om + k)) (by simp [execOp, Act.eval, f42, f43, go_sem, hk0, hk1]) hl hs hS
    apply sc
    ·intro a w' vs σ hS hl hs hk
     have f44 : a.tmps[44]?.getD undef = .pointer (some ⟨bm, om + k, none⟩) := sf hk 7
     have hx := (hS.base.cell (p := ⟨bm, om + k, none⟩) hzm).trans hcm
     exact rp (.int .i64 n1) (by simp [execOp, Act.eval, f44, go_sem, hx]) hl hs hS
    apply sc
    ·intro a w' vs σ hS hl hs hk
     have f1 : a.tmps[1]?.getD undef = .slice (some ⟨bs, ob, none⟩) ls.length cs := sof hk
     exact rp (.slice (some ⟨bs, ob, none⟩) ls.length cs) (by simp [execOp, Act.eval, f1, go_sem]) hl hs hS
    apply sc
    ·intro a w' vs σ hS hl hs hk
     have f8 : a.tmps[8]?.getD undef = .int .i64 ↑k := sof hk
     exact rp (.int .i64 ↑k) (by simp [execOp, Act.eval, f8, go_sem]) hl hs hS
    apply sc
    ·intro a w' vs σ hS hl hs hk
     have f46 : a.tmps[46]?.getD undef = .slice (some ⟨bs, ob, none⟩) ls.length cs := sf hk 9
     have f47 : a.tmps[47]?.getD undef = .int .i64 ↑k := sf hk 10
     exact rp (pt bs (ob + k * 18)) (by simp [execOp, Act.eval, f46, f47, go_sem, hk0, hk2]) hl hs hS
    apply sc
    ·intro a w' vs σ hS hl hs hk
     have f48 : a.tmps[48]?.getD undef = .pointer (some ⟨bs, ob + k * 18, none⟩) := sf hk 11
     have hx := (recAt_below hS.base hzs (ob + k * 18) 18).trans hrs
     exact rp (.agg (sv s1)) (by simp [execOp, Act.eval, f48, go_sem, hx]) hl hs hS
    apply sc
    ·intro a w' vs σ hS hl hs hk
     have f41 : a.tmps[41]?.getD undef = .int .i64 1 := sf hk 4
     have f45 : a.tmps[45]?.getD undef = .int .i64 n1 := sf hk 8
     have f49 : a.tmps[49]?.getD undef = .agg (sv s1) := sf hk 12
     exact rp (.agg (av24 ⟨1, n1, 0, 0, cell0, s1, pen0, none, 0, []⟩)) (by simp [execOp, Act.eval, f41, f45, f49, go_sem]) hl hs hS
    apply sc
    ·intro a w' vs σ hS hl hs hk
     have e37 : a.tmps.getD 37 undef = .pointer (some ⟨p, 0, none⟩) := svv hk 0
     have e38 : a.tmps.getD 38 undef = pt x 0 := svv hk 1
     have e50 : a.tmps.getD 50 undef = .agg (av24 ⟨1, n1, 0, 0, cell0, s1, pen0, none, 0, []⟩) := svv hk 13
     exact ro_call (f := 32) (wanted_none rfl) rfl (by simp only [List.map_toArray, List.map_cons, List.map_nil, Act.eval, e37, e38, e50] <;> rfl) (fun _ _ => by kernel_rfl) ((pair_call hS (k := 0) (k2 := 1) (sg (hs 0 (by decide))) (sg (hs 1 (by decide))) (by decide) (fun rest h => does24_enter (p := p) (x := x) (s := s) ⟨1, n1, 0, 0, cell0, s1, pen0, none, 0, []⟩ rfl HT.out h HG.out)).mono fun e w2 ⟨h1, h2⟩ => ⟨_, h1, sp_set2 0 1 (pairO p (entS n1 s1 pen0 s)) (refO x (entS n1 s1 pen0 s)) (by decide) (by kernel_rfl) (by simp) (by simp) (by decide) (by decide) hl hs (by rfl) (by rfl) h2 rfl, trivial⟩)
    apply sc
    ·intro a w' vs σ hS hl hs hk
     have f51 : a.tmps[51]?.getD undef = .bool true := sf hk 14
     exact rp (.bool false) (by simp [execOp, Act.eval, f51, go_sem]) hl hs hS
    apply sc
    ·intro a w' vs σ hS hl hs hk
     have f52 : a.tmps[52]?.getD undef = .bool false := sf hk 15
     exact rp (.bool false) (by simp [execOp, Act.eval, f52, go_sem]) hl hs hS
    apply sc
    ·intro a w' vs σ hS hl hs hk
     have f5 : a.tmps[5]?.getD undef = .pointer (some ⟨p, 0, none⟩) := sof hk
     exact rq (pt p 0) (wanted_yes rfl rfl rfl (svv hk 16)) (by simp [execOp, Act.eval, f5, go_sem]) hl hs hS
    apply sc
    ·intro a w' vs σ hS hl hs hk
     have f7 : a.tmps[7]?.getD undef = .pointer (some ⟨x, 0, none⟩) := sof hk
     exact rq (pt x 0) (wanted_yes rfl rfl rfl (svv hk 16)) (by simp [execOp, Act.eval, f7, go_sem]) hl hs hS
    apply sc
    ·intro a w' vs σ hS hl hs hk
     have e54 : a.tmps.getD 54 undef = .pointer (some ⟨p, 0, none⟩) := svv hk 17
     have e55 : a.tmps.getD 55 undef = pt x 0 := svv hk 18
     exact ro_call (f := 30) (wanted_yes rfl rfl rfl (svv hk 16)) rfl (by simp only [List.map_toArray, List.map_cons, List.map_nil, Act.eval, e54, e55] <;> rfl) (fun _ _ => by kernel_rfl) ((pair_call hS (k := 0) (k2 := 1) (sg (hs 0 (by decide))) (sg (hs 1 (by decide))) (by decide) (fun rest h => l24alike_any (p := p) (x := x) HT.out h HG2.out)).mono fun e w2 ⟨h1, h2⟩ => ⟨_, h1, sp_set2 0 1 (pairO p (entS n1 s1 pen0 s)) (refO x (entS n1 s1 pen0 s)) (by decide) (by kernel_rfl) (by simp) (by simp) (by decide) (by decide) hl hs (by rfl) (by rfl) h2 rfl, trivial⟩)
    apply sc
    ·intro a w' vs σ hS hl hs hk
     have f56 : a.tmps[56]?.getD undef = .bool true := sf hk 19
     exact rq (.bool false) (wanted_yes rfl rfl rfl (svv hk 16)) (by simp [execOp, Act.eval, f56, go_sem]) hl hs hS
    apply sc
    ·intro a w' vs σ hS hl hs hk
     have f53 : a.tmps[53]?.getD undef = .bool false := sf hk 16
     have f57 : a.tmps[57]?.getD undef = .bool false := sf hk 20
     exact rp (.bool false) (by simp [execOp, Act.eval, f53, f57, go_sem]) hl hs hS
    exact SSteps.nil
   ·intro vs w' hS hv
    have q0 : vs 0 = _ := hv 0 (by decide)
    have q1 : vs 1 = _ := hv 1 (by decide)
    have q2 : vs 2 = _ := hv 2 (by decide)
    have q3 : vs 3 = _ := hv 3 (by decide)
    have q4 : vs 4 = _ := hv 4 (by decide)
    have q5 : vs 5 = _ := hv 5 (by decide)
    have q6 : vs 6 = _ := hv 6 (by decide)
    have q7 : vs 7 = _ := hv 7 (by decide)
    have q8 : vs 8 = _ := hv 8 (by decide)
    have q9 : vs 9 = _ := hv 9 (by decide)
    have q10 : vs 10 = _ := hv 10 (by decide)
    have q11 : vs 11 = _ := hv 11 (by decide)
    have q12 : vs 12 = _ := hv 12 (by decide)
    have q13 : vs 13 = _ := hv 13 (by decide)
    have q14 : vs 14 = _ := hv 14 (by decide)
    have q15 : vs 15 = _ := hv 15 (by decide)
    have q16 : vs 16 = _ := hv 16 (by decide)
    have q17 : vs 17 = _ := hv 17 (by decide)
    have q18 : vs 18 = _ := hv 18 (by decide)
    have q19 : vs 19 = _ := hv 19 (by decide)
    have q20 : vs 20 = _ := hv 20 (by decide)
    have q21 : vs 21 = _ := hv 21 (by decide)
    have S2 := Lib.hid hS
    simp only [putL, Act.put, Nat.zero_add, Nat.reduceAdd, List.setIfInBounds_toArray, List.set_cons_succ, List.set_cons_zero, q0, q1, q2, q3, q4, q5, q6, q7, q8, q9, q10, q11, q12, q13, q14, q15, q16, q17, q18, q19, q20, q21]
    clear hS hv q0 q1 q2 q3 q4 q5 q6 q7 q8 q9 q10 q11 q12 q13 q14 q15 q16 q17 q18 q19 q20 q21
    have S2_ := S2
    clear S2 S1
    go_wp2_with fail
    go_roundw
    case rel => exact ⟨k + 1, _, by omega, by go_num, HG2, S2_.out⟩
    case measure => simp [intOf]; omega
  ·have hw12 : IntKind.i64.wrap 2 = 2 := IntWalk.i64_in _ (by omega)
   have HG2 := Lib.hid (lvSt_good (n := n1) (q := pen0) HG.out)
   go_upto_region 10 with (fail)
   refine wp_region_stage (w0 := w) (os := []) (by kernel_rfl) (by kernel_rfl) (by kernel_rfl) [(0, 14, [], fun vs => pairO p (lvSt n1 pen0 s)), (1, 14, [], fun vs => refO x (lvSt n1 pen0 s)), (0, 19, [], fun vs => pairO p (lvSt n1 pen0 s)), (1, 19, [], fun vs => refO x (lvSt n1 pen0 s))] [[], [], [], [], [], [], [], [], [], [], [], [], [], [], [0, 1], [], [], [], [], [0, 1], [], []] [pairO p s, refO x s] (fun opn u => match opn with | 0 => u = .pointer (some ⟨p, 0, none⟩) | 1 => u = .pointer (some ⟨x, 0, none⟩) | 2 => u = .int .i64 ↑k | 3 => u = .int .i64 1 | 4 => u = .int .i64 2 | 5 => u = .slice (some ⟨bm, om, none⟩) lm.length cm | 6 => u = .int .i64 ↑k | 7 => u = .pointer (some ⟨bm, om + k, none⟩) | 8 => u = .int .i64 n1 | 9 => u = .slice (some ⟨bs, ob, none⟩) ls.length cs | 10 => u = .int .i64 ↑k | 11 => u = .pointer (some ⟨bs, ob + k * 18, none⟩) | 12 => u = .agg (sv s1) | 13 => u = .agg (av24 ⟨2, n1, 0, 0, cell0, s1, pen0, none, 0, []⟩) | 14 => u = .bool true | 15 => u = .bool false | 16 => u = .bool false | 17 => u = .pointer (some ⟨p, 0, none⟩) | 18 => u = .pointer (some ⟨x, 0, none⟩) | 19 => u = .bool true | 20 => u = .bool false | 21 => u = .bool false | _ => True) (fun vs => [pairO p (lvSt n1 pen0 s), refO x (lvSt n1 pen0 s)]) (by kernel_rfl) (fun vs => by rfl) S1.out ?_ ?_
   ·apply sc
    ·intro a w' vs σ hS hl hs hk
     have f5 : a.tmps[5]?.getD undef = .pointer (some ⟨p, 0, none⟩) := sof hk
     exact rp (pt p 0) (by simp [execOp, Act.eval, f5, go_sem]) hl hs hS
    apply sc
    ·intro a w' vs σ hS hl hs hk
     have f7 : a.tmps[7]?.getD undef = .pointer (some ⟨x, 0, none⟩) := sof hk
     exact rp (pt x 0) (by simp [execOp, Act.eval, f7, go_sem]) hl hs hS
    apply sc
    ·intro a w' vs σ hS hl hs hk
     have f8 : a.tmps[8]?.getD undef = .int .i64 ↑k := sof hk
     exact rp (.int .i64 ↑k) (by simp [execOp, Act.eval, f8, go_sem]) hl hs hS
    apply sc
    ·intro a w' vs σ hS hl hs hk
     have f39 : a.tmps[39]?.getD undef = .int .i64 ↑k := sf hk 2
     exact rp (.int .i64 1) (by simp [execOp, Act.eval, f39, go_sem, hpar]) hl hs hS
    apply sc
    ·intro a w' vs σ hS hl hs hk
     have f40 : a.tmps[40]?.getD undef = .int .i64 1 := sf hk 3
     exact rp (.int .i64 2) (by simp [execOp, Act.eval, f40, go_sem, hw12]) hl hs hS
    apply sc
    ·intro a w' vs σ hS hl hs hk
     have f0 : a.tmps[0]?.getD undef = .slice (some ⟨bm, om, none⟩) lm.length cm := sof hk
     exact rp (.slice (some ⟨bm, om, none⟩) lm.length cm) (by simp [execOp, Act.eval, f0, go_sem]) hl hs hS
    apply sc
    ·intro a w' vs σ hS hl hs hk
     have f8 : a.tmps[8]?.getD undef = .int .i64 ↑k := sof hk
     exact rp (.int .i64 ↑k) (by simp [execOp, Act.eval, f8, go_sem]) hl hs hS
    apply sc
    ·intro a w' vs σ hS hl hs hk
     have f42 : a.tmps[42]?.getD undef = .slice (some ⟨bm, om, none⟩) lm.length cm := sf hk 5
     have f43 : a.tmps[43]?.getD undef = .int .i64 ↑k := sf hk 6
     exact rp (pt bm (om + k)) (by simp [execOp, Act.eval, f42, f43, go_sem, hk0, hk1]) hl hs hS
    apply sc
    ·intro a w' vs σ hS hl hs hk
     have f44 : a.tmps[44]?.getD undef = .pointer (some ⟨bm, om + k, none⟩) := sf hk 7
     have hx := (hS.base.cell (p := ⟨bm, om + k, none⟩) hzm).trans hcm
     exact rp (.int .i64 n1) (by simp [execOp, Act.eval, f44, go_sem, hx]) hl hs hS
    apply sc
    ·intro a w' vs σ hS hl hs hk
     have f1 : a.tmps[1]?.getD undef = .slice (some ⟨bs, ob, none⟩) ls.length cs := sof hk
     exact rp (.slice (some ⟨bs, ob, none⟩) ls.length cs) (by simp [execOp, Act.eval, f1, go_sem]) hl hs hS
    apply sc
    ·intro a w' vs σ hS hl hs hk
     have f8 : a.tmps[8]?.getD undef = .int .i64 ↑k := sof hk
     exact rp (.int .i64 ↑k) (by simp [execOp, Act.eval, f8, go_sem]) hl hs hS
    apply sc
    ·intro a w' vs σ hS hl hs hk
     have f46 : a.tmps[46]?.getD undef = .slice (some ⟨bs, ob, none⟩) ls.length cs := sf hk 9
     have f47 : a.tmps[47]?.getD undef = .int .i64 ↑k := sf hk 10
     exact rp (pt bs (ob + k * 18)) (by simp [execOp, Act.eval, f46, f47, go_sem, hk0, hk2]) hl hs hS
    apply sc
    ·intro a w' vs σ hS hl hs hk
     have f48 : a.tmps[48]?.getD undef = .pointer (some ⟨bs, ob + k * 18, none⟩) := sf hk 11
     have hx := (recAt_below hS.base hzs (ob + k * 18) 18).trans hrs
     exact rp (.agg (sv s1)) (by simp [execOp, Act.eval, f48, go_sem, hx]) hl hs hS
    apply sc
    ·intro a w' vs σ hS hl hs hk
     have f41 : a.tmps[41]?.getD undef = .int .i64 2 := sf hk 4
     have f45 : a.tmps[45]?.getD undef = .int .i64 n1 := sf hk 8
     have f49 : a.tmps[49]?.getD undef = .agg (sv s1) := sf hk 12
     exact rp (.agg (av24 ⟨2, n1, 0, 0, cell0, s1, pen0, none, 0, []⟩)) (by simp [execOp, Act.eval, f41, f45, f49, go_sem]) hl hs hS
    apply sc
    ·intro a w' vs σ hS hl hs hk
     have e37 : a.tmps.getD 37 undef = .pointer (some ⟨p, 0, none⟩) := svv hk 0
     have e38 : a.tmps.getD 38 undef = pt x 0 := svv hk 1
     have e50 : a.tmps.getD 50 undef = .agg (av24 ⟨2, n1, 0, 0, cell0, s1, pen0, none, 0, []⟩) := svv hk 13
     exact ro_call (f := 32) (wanted_none rfl) rfl (by simp only [List.map_toArray, List.map_cons, List.map_nil, Act.eval, e37, e38, e50] <;> rfl) (fun _ _ => by kernel_rfl) ((pair_call hS (k := 0) (k2 := 1) (sg (hs 0 (by decide))) (sg (hs 1 (by decide))) (by decide) (fun rest h => does24_leave (p := p) (x := x) (s := s) ⟨2, n1, 0, 0, cell0, s1, pen0, none, 0, []⟩ rfl HT.out h HG.out)).mono fun e w2 ⟨h1, h2⟩ => ⟨_, h1, sp_set2 0 1 (pairO p (lvSt n1 pen0 s)) (refO x (lvSt n1 pen0 s)) (by decide) (by kernel_rfl) (by simp) (by simp) (by decide) (by decide) hl hs (by rfl) (by rfl) h2 rfl, trivial⟩)
    apply sc
    ·intro a w' vs σ hS hl hs hk
     have f51 : a.tmps[51]?.getD undef = .bool true := sf hk 14
     exact rp (.bool false) (by simp [execOp, Act.eval, f51, go_sem]) hl hs hS
    apply sc
    ·intro a w' vs σ hS hl hs hk
     have f52 : a.tmps[52]?.getD undef = .bool false := sf hk 15
     exact rp (.bool false) (by simp [execOp, Act.eval, f52, go_sem]) hl hs hS
    apply sc
    ·intro a w' vs σ hS hl hs hk
     have f5 : a.tmps[5]?.getD undef = .pointer (some ⟨p, 0, none⟩) := sof hk
     exact rq (pt p 0) (wanted_yes rfl rfl rfl (svv hk 16)) (by simp [execOp, Act.eval, f5, go_sem]) hl hs hS
    apply sc
    ·intro a w' vs σ hS hl hs hk
     have f7 : a.tmps[7]?.getD undef = .pointer (some ⟨x, 0, none⟩) := sof hk
     exact rq (pt x 0) (wanted_yes rfl rfl rfl (svv hk 16)) (by simp [execOp, Act.eval, f7, go_sem]) hl hs hS
    apply sc
    ·intro a w' vs σ hS hl hs hk
     have e54 : a.tmps.getD 54 undef = .pointer (some ⟨p, 0, none⟩) := svv hk 17
     have e55 : a.tmps.getD 55 undef = pt x 0 := svv hk 18
     exact ro_call (f := 30) (wanted_yes rfl rfl rfl (svv hk 16)) rfl (by simp only [List.map_toArray, List.map_cons, List.map_nil, Act.eval, e54, e55] <;> rfl) (fun _ _ => by kernel_rfl) ((pair_call hS (k := 0) (k2 := 1) (sg (hs 0 (by decide))) (sg (hs 1 (by decide))) (by decide) (fun rest h => l24alike_any (p := p) (x := x) HT.out h HG2.out)).mono fun e w2 ⟨h1, h2⟩ => ⟨_, h1, sp_set2 0 1 (pairO p (lvSt n1 pen0 s)) (refO x (lvSt n1 pen0 s)) (by decide) (by kernel_rfl) (by simp) (by simp) (by decide) (by decide) hl hs (by rfl) (by rfl) h2 rfl, trivial⟩)
    apply sc
    ·intro a w' vs σ hS hl hs hk
     have f56 : a.tmps[56]?.getD undef = .bool true := sf hk 19
     exact rq (.bool false) (wanted_yes rfl rfl rfl (svv hk 16)) (by simp [execOp, Act.eval, f56, go_sem]) hl hs hS
    apply sc
    ·intro a w' vs σ hS hl hs hk
     have f53 : a.tmps[53]?.getD undef = .bool false := sf hk 16
     have f57 : a.tmps[57]?.getD undef = .bool false := sf hk 20
     exact rp (.bool false) (by simp [execOp, Act.eval, f53, f57, go_sem]) hl hs hS
    exact SSteps.nil
   ·intro vs w' hS hv
    have q0 : vs 0 = _ := hv 0 (by decide)
    have q1 : vs 1 = _ := hv 1 (by decide)
    have q2 : vs 2 = _ := hv 2 (by decide)
    have q3 : vs 3 = _ := hv 3 (by decide)
    have q4 : vs 4 = _ := hv 4 (by decide)
    have q5 : vs 5 = _ := hv 5 (by decide)
    have q6 : vs 6 = _ := hv 6 (by decide)
    have q7 : vs 7 = _ := hv 7 (by decide)
    have q8 : vs 8 = _ := hv 8 (by decide)
    have q9 : vs 9 = _ := hv 9 (by decide)
    have q10 : vs 10 = _ := hv 10 (by decide)
    have q11 : vs 11 = _ := hv 11 (by decide)
    have q12 : vs 12 = _ := hv 12 (by decide)
    have q13 : vs 13 = _ := hv 13 (by decide)
    have q14 : vs 14 = _ := hv 14 (by decide)
    have q15 : vs 15 = _ := hv 15 (by decide)
    have q16 : vs 16 = _ := hv 16 (by decide)
    have q17 : vs 17 = _ := hv 17 (by decide)
    have q18 : vs 18 = _ := hv 18 (by decide)
    have q19 : vs 19 = _ := hv 19 (by decide)
    have q20 : vs 20 = _ := hv 20 (by decide)
    have q21 : vs 21 = _ := hv 21 (by decide)
    have S2 := Lib.hid hS
    simp only [putL, Act.put, Nat.zero_add, Nat.reduceAdd, List.setIfInBounds_toArray, List.set_cons_succ, List.set_cons_zero, q0, q1, q2, q3, q4, q5, q6, q7, q8, q9, q10, q11, q12, q13, q14, q15, q16, q17, q18, q19, q20, q21]
    clear hS hv q0 q1 q2 q3 q4 q5 q6 q7 q8 q9 q10 q11 q12 q13 q14 q15 q16 q17 q18 q19 q20 q21
    have S2_ := S2
    clear S2 S1
    go_wp2_with fail
    go_roundw
    case rel => exact ⟨k + 1, _, by omega, by go_num, HG2, S2_.out⟩
    case measure => simp [intOf]; omega
end Go.Proofs.YtdndoikgnohkkaaDoor
