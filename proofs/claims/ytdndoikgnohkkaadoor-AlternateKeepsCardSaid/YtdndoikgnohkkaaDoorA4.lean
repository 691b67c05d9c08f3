/-
  Part 4 of the texts on which the proofs of this seat stand: each part says ahead of it what it shows.
-/
import Derived.Test.YtdndoikgnohkkaaDoorA3
import Derived.ProofKit
import Derived.OpenShut
import Derived.Deep.Slices
import Derived.Lib.LaidTab
import Derived.ChangeSame
import Derived.Carry
import Derived.Test.YtdndoikgnohkkaaDoorCards
import Derived.Test.YtdndoikgnohkkaaDoorTie
import Derived.WalkKit
import Derived.Deep.DeepHandedRow
set_option linter.unusedSimpArgs false
set_option linter.unusedVariables false
namespace Go.Proofs.YtdndoikgnohkkaaDoor
open Go.RowKit

section
variable {w0 w : World} {os : List Ob} {p x : Nat} {s : Pr}
theorem Main_at {k rr : Nat} (hS : Objs w0 w os) (hk : os[k]? = some (pairO p s)) (hg : s.good rr) :
  Calls Tryd.prog 14 #[.pointer (some ⟨p, 0, none⟩)] w fun e w' => ∃ x, e = .returned (.pointer (some ⟨x, 0, none⟩)) ∧ Objs w0 w' (.grid x 83 s.cols s.M :: os) :=
 (Main_front (hS.lift hk) hg).mono fun e w' ⟨x, h1, h2⟩ => ⟨x, h1, by have := Objs.lowerNew hk h2; rwa [set_self hk] at this⟩
theorem Grid_at {k rr : Nat} (hS : Objs w0 w os) (hk : os[k]? = some (pairO p s)) (hg : s.good rr) :
  Calls Tryd.prog 13 #[.pointer (some ⟨p, 0, none⟩)] w fun e w' => ∃ x, e = .returned (.pointer (some ⟨x, 0, none⟩)) ∧ Objs w0 w' (.grid x 83 s.cols s.U :: os) :=
 (Grid_front (hS.lift hk) hg).mono fun e w' ⟨x, h1, h2⟩ => ⟨x, h1, by have := Objs.lowerNew hk h2; rwa [set_self hk] at this⟩
theorem alike_close {mr ro cm co : Nat} {Am Ao : Option Addr} (h1 : Objs w0 w (pairO p s :: .box x 103 (rpv mr ro s.mode (s.kept.getD saved0) s.kept.isSome) :: .box mr 106 #[.int .i64 ↑s.cols, .slice Am s.M.length cm] :: .box ro 106 #[.int .i64 ↑s.cols, .slice Ao s.O.length co] :: .lines (.slice Am s.M.length cm) s.M :: .lines (.slice Ao s.O.length co) s.O :: os)) :
  Objs w0 w (pairO p s :: .box x 103 (rpv mr ro s.mode (s.kept.getD saved0) s.kept.isSome) :: .grid mr 106 ↑s.cols s.M :: .grid ro 106 ↑s.cols s.O :: os) := by
 have h2 := (show Objs w0 w (.lines (.slice Am s.M.length cm) s.M :: .lines (.slice Ao s.O.length co) s.O :: pairO p s :: .box x 103 (rpv mr ro s.mode (s.kept.getD saved0) s.kept.isSome) :: .box mr 106 #[.int .i64 ↑s.cols, .slice Am s.M.length cm] :: .box ro 106 #[.int .i64 ↑s.cols, .slice Ao s.O.length co] :: os) from (Objs.pick (σ := [_, _, _, _, _, _]) (os := os) h1 [some 4, some 5, some 0, some 1, some 2, some 3] (by decide) rfl))
 have h3 := h2.closeGrid (k := 3) rfl
 exact Objs.closeGrid (k := 3) (show Objs w0 w (.lines (.slice Ao s.O.length co) s.O :: _) from h3) rfl
set_option maxRecDepth 100000 in
set_option maxHeartbeats 8000000 in
theorem l24alike_any {rr : Nat} (hT : Tabs w0) (hS : Objs w0 w (pairO p s :: refO x s :: os)) (hg : s.good rr) :
  Calls Tryd.prog 30 #[.pointer (some ⟨p, 0, none⟩), .pointer (some ⟨x, 0, none⟩)] w fun e w' => e = .returned (.bool true) ∧ Objs w0 w' (pairO p s :: refO x s :: os) := by
 obtain ⟨mr, ro, hO⟩ := hS.swap.openRef
 have S1 := Lib.hid (show Objs w0 w (pairO p s :: .box x 103 (rpv mr ro s.mode (s.kept.getD saved0) s.kept.isSome) :: .grid mr 106 ↑s.cols s.M :: .grid ro 106 ↑s.cols s.O :: os) from (Objs.pick (σ := [_, _, _, _]) (os := os) hO [some 3, some 0, some 1, some 2] (by decide) rfl))
 have HT := Lib.hid hT
 have HG := Lib.hid hg
 clear hS hO hT hg
 obtain ⟨bb, hd, hb⟩ : ∃ bb, decide (¬ s.mode = 0) = bb ∧ (s.mode != 0) = bb := ⟨_, rfl, by by_cases h : s.mode = 0 <;> simp [h]⟩
 have HD := Lib.hid hd
 have HB := Lib.hid hb
 clear hd hb
 go_enter Tryd.func30, Tryd.ntmps30
 go_upto_region 1 with (fail)
 refine wp_region_stage (w0 := w0) (os := .grid mr 106 ↑s.cols s.M :: .grid ro 106 ↑s.cols s.O :: os) (by kernel_rfl) (by kernel_rfl) (by kernel_rfl) [] [[], [], [], [], [0], [], [], [], [1], [], [], [], [], [0], [], [], [], [1], [], [], []] [pairO p s, .box x 103 (rpv mr ro s.mode (s.kept.getD saved0) s.kept.isSome)] (fun opn u => match opn with | 0 => u = .pointer (some ⟨p, 0, none⟩) | 1 => u = .bool false | 2 => u = .bool false | 3 => u = .pointer (some ⟨p, 0, none⟩) | 4 => u = .int .i64 s.mode | 5 => u = .pointer (some ⟨x, 0, none⟩) | 6 => u = .pointer (some ⟨x, 0, none⟩) | 7 => u = .pointer (some ⟨x, 2, none⟩) | 8 => u = .int .i64 s.mode | 9 => u = .bool false | 10 => u = .bool false | 11 => u = .bool false | 12 => u = .pointer (some ⟨p, 0, none⟩) | 13 => u = .bool bb | 14 => u = .pointer (some ⟨x, 0, none⟩) | 15 => u = .pointer (some ⟨x, 0, none⟩) | 16 => u = .pointer (some ⟨x, 2, none⟩) | 17 => u = .int .i64 s.mode | 18 => u = .bool bb | 19 => u = .bool false | 20 => u = .bool false | _ => True) (fun vs => [pairO p s, .box x 103 (rpv mr ro s.mode (s.kept.getD saved0) s.kept.isSome)]) (by kernel_rfl) (fun vs => by rfl) S1.out ?_ ?_
 ·apply sc
  ·intro a w' vs σ hS hl hs hk
   have f0 : a.tmps[0]?.getD undef = .pointer (some ⟨p, 0, none⟩) := sof hk
   exact rp (pt p 0) (by simp [execOp, Act.eval, f0, go_sem]) hl hs hS
  apply sc
  ·intro a w' vs σ hS hl hs hk
   have f8 : a.tmps[8]?.getD undef = .pointer (some ⟨p, 0, none⟩) := sf hk 0
   exact rp (.bool false) (by simp [execOp, Act.eval, f8, go_sem]) hl hs hS
  apply sc
  ·intro a w' vs σ hS hl hs hk
   have f9 : a.tmps[9]?.getD undef = .bool false := sf hk 1
   exact rp (.bool false) (by simp [execOp, Act.eval, f9, go_sem]) hl hs hS
  apply sc
  ·intro a w' vs σ hS hl hs hk
   have f0 : a.tmps[0]?.getD undef = .pointer (some ⟨p, 0, none⟩) := sof hk
   exact rq (pt p 0) (wanted_yes rfl rfl rfl (svv hk 2)) (by simp [execOp, Act.eval, f0, go_sem]) hl hs hS
  apply sc
  ·intro a w' vs σ hS hl hs hk
   have e11 : a.tmps.getD 11 undef = .pointer (some ⟨p, 0, none⟩) := svv hk 3
   exact ro_call (f := 12) (wanted_yes rfl rfl rfl (svv hk 2)) rfl (by simp only [List.map_toArray, List.map_cons, List.map_nil, Act.eval, e11] <;> rfl) (fun _ _ => by kernel_rfl) ((Mode_any hS (sg (hs 0 (by decide)))).mono fun e w2 ⟨h1, h2⟩ => ⟨_, h1, sp_same (by kernel_rfl) hl hs h2 rfl, trivial⟩)
  apply sc
  ·intro a w' vs σ hS hl hs hk
   have f1 : a.tmps[1]?.getD undef = .pointer (some ⟨x, 0, none⟩) := sof hk
   exact rq (pt x 0) (wanted_yes rfl rfl rfl (svv hk 2)) (by simp [execOp, Act.eval, f1, go_sem]) hl hs hS
  apply sc
  ·intro a w' vs σ hS hl hs hk
   have f13 : a.tmps[13]?.getD undef = .pointer (some ⟨x, 0, none⟩) := sf hk 5
   exact rq (pt x 0) (wanted_yes rfl rfl rfl (svv hk 2)) (by simp [execOp, Act.eval, f13, go_sem]) hl hs hS
  apply sc
  ·intro a w' vs σ hS hl hs hk
   have f14 : a.tmps[14]?.getD undef = .pointer (some ⟨x, 0, none⟩) := sf hk 6
   exact rq (pt x 2) (wanted_yes rfl rfl rfl (svv hk 2)) (by simp [execOp, Act.eval, f14, go_sem]) hl hs hS
  apply sc
  ·intro a w' vs σ hS hl hs hk
   have f15 : a.tmps[15]?.getD undef = .pointer (some ⟨x, 2, none⟩) := sf hk 7
   have hx := (hS.box (sg (hs 1 (by decide)))).rpair.1
   exact rq (.int .i64 s.mode) (wanted_yes rfl rfl rfl (svv hk 2)) (by simp [execOp, Act.eval, f15, go_sem, hx]) hl hs hS
  apply sc
  ·intro a w' vs σ hS hl hs hk
   have f12 : a.tmps[12]?.getD undef = .int .i64 s.mode := sf hk 4
   have f16 : a.tmps[16]?.getD undef = .int .i64 s.mode := sf hk 8
   exact rq (.bool false) (wanted_yes rfl rfl rfl (svv hk 2)) (by simp [execOp, Act.eval, f12, f16, go_sem]) hl hs hS
  apply sc
  ·intro a w' vs σ hS hl hs hk
   have f10 : a.tmps[10]?.getD undef = .bool false := sf hk 2
   have f17 : a.tmps[17]?.getD undef = .bool false := sf hk 9
   exact rp (.bool false) (by simp [execOp, Act.eval, f10, f17, go_sem]) hl hs hS
  apply sc
  ·intro a w' vs σ hS hl hs hk
   have f18 : a.tmps[18]?.getD undef = .bool false := sf hk 10
   exact rp (.bool false) (by simp [execOp, Act.eval, f18, go_sem]) hl hs hS
  apply sc
  ·intro a w' vs σ hS hl hs hk
   have f0 : a.tmps[0]?.getD undef = .pointer (some ⟨p, 0, none⟩) := sof hk
   exact rq (pt p 0) (wanted_yes rfl rfl rfl (svv hk 11)) (by simp [execOp, Act.eval, f0, go_sem]) hl hs hS
  apply sc
  ·intro a w' vs σ hS hl hs hk
   have e20 : a.tmps.getD 20 undef = .pointer (some ⟨p, 0, none⟩) := svv hk 12
   have hcon := Alternate_any hS (sg (hs 0 (by decide)))
   rw [HD.out] at hcon
   exact ro_call (f := 11) (wanted_yes rfl rfl rfl (svv hk 11)) rfl (by simp only [List.map_toArray, List.map_cons, List.map_nil, Act.eval, e20] <;> rfl) (fun _ _ => by kernel_rfl) ((hcon).mono fun e w2 ⟨h1, h2⟩ => ⟨_, h1, sp_same (by kernel_rfl) hl hs h2 rfl, trivial⟩)
  apply sc
  ·intro a w' vs σ hS hl hs hk
   have f1 : a.tmps[1]?.getD undef = .pointer (some ⟨x, 0, none⟩) := sof hk
   exact rq (pt x 0) (wanted_yes rfl rfl rfl (svv hk 11)) (by simp [execOp, Act.eval, f1, go_sem]) hl hs hS
  apply sc
  ·intro a w' vs σ hS hl hs hk
   have f22 : a.tmps[22]?.getD undef = .pointer (some ⟨x, 0, none⟩) := sf hk 14
   exact rq (pt x 0) (wanted_yes rfl rfl rfl (svv hk 11)) (by simp [execOp, Act.eval, f22, go_sem]) hl hs hS
  apply sc
  ·intro a w' vs σ hS hl hs hk
   have f23 : a.tmps[23]?.getD undef = .pointer (some ⟨x, 0, none⟩) := sf hk 15
   exact rq (pt x 2) (wanted_yes rfl rfl rfl (svv hk 11)) (by simp [execOp, Act.eval, f23, go_sem]) hl hs hS
  apply sc
  ·intro a w' vs σ hS hl hs hk
   have f24 : a.tmps[24]?.getD undef = .pointer (some ⟨x, 2, none⟩) := sf hk 16
   have hx := (hS.box (sg (hs 1 (by decide)))).rpair.1
   exact rq (.int .i64 s.mode) (wanted_yes rfl rfl rfl (svv hk 11)) (by simp [execOp, Act.eval, f24, go_sem, hx]) hl hs hS
  apply sc
  ·intro a w' vs σ hS hl hs hk
   have f25 : a.tmps[25]?.getD undef = .int .i64 s.mode := sf hk 17
   exact rq (.bool bb) (wanted_yes rfl rfl rfl (svv hk 11)) (by simp [execOp, Act.eval, f25, go_sem, HB.out]) hl hs hS
  apply sc
  ·intro a w' vs σ hS hl hs hk
   have f21 : a.tmps[21]?.getD undef = .bool bb := sf hk 13
   have f26 : a.tmps[26]?.getD undef = .bool bb := sf hk 18
   exact rq (.bool false) (wanted_yes rfl rfl rfl (svv hk 11)) (by simp [execOp, Act.eval, f21, f26, go_sem]) hl hs hS
  apply sc
  ·intro a w' vs σ hS hl hs hk
   have f19 : a.tmps[19]?.getD undef = .bool false := sf hk 11
   have f27 : a.tmps[27]?.getD undef = .bool false := sf hk 19
   exact rp (.bool false) (by simp [execOp, Act.eval, f19, f27, go_sem]) hl hs hS
  exact SSteps.nil
 ·intro vs w' hS hv
  have q0 : vs 0 = _ := hv 0 (by decide)
  have q1 : vs 1 = _ := hv 1 (by decide)
  have q2 : vs 2 = _ := hv 2 (by decide)
  have q3 : vs 3 = _ := hv 3 (by decide)
  have q4 : vs 4 = _ := hv 4 (by decide)
  have q5 : vs 5 = _ := hv 5 (by decide)
  have q6 : vs 6 = _ := hv 6 (by decide)
  have q7 : vs 7 = _ := hv 7 (by decide)
  have q8 : vs 8 = _ := hv 8 (by decide)
  have q9 : vs 9 = _ := hv 9 (by decide)
  have q10 : vs 10 = _ := hv 10 (by decide)
  have q11 : vs 11 = _ := hv 11 (by decide)
  have q12 : vs 12 = _ := hv 12 (by decide)
  have q13 : vs 13 = _ := hv 13 (by decide)
  have q14 : vs 14 = _ := hv 14 (by decide)
  have q15 : vs 15 = _ := hv 15 (by decide)
  have q16 : vs 16 = _ := hv 16 (by decide)
  have q17 : vs 17 = _ := hv 17 (by decide)
  have q18 : vs 18 = _ := hv 18 (by decide)
  have q19 : vs 19 = _ := hv 19 (by decide)
  have q20 : vs 20 = _ := hv 20 (by decide)
  have S2 := Lib.hid hS
  simp only [putL, Act.put, Nat.zero_add, Nat.reduceAdd, List.setIfInBounds_toArray, List.set_cons_succ, List.set_cons_zero, q0, q1, q2, q3, q4, q5, q6, q7, q8, q9, q10, q11, q12, q13, q14, q15, q16, q17, q18, q19, q20]
  clear hS hv q0 q1 q2 q3 q4 q5 q6 q7 q8 q9 q10 q11 q12 q13 q14 q15 q16 q17 q18 q19 q20
  have S1_ := S2
  clear S2 S1
  go_wp2_with fail
  go_loopw [5] (fun v wr => ∃ n : Nat, n ≤ 2 ∧ v = .int .i64 n ∧ Objs w0 wr (pairO p s :: .box x 103 (rpv mr ro s.mode (s.kept.getD saved0) s.kept.isSome) :: .grid mr 106 ↑s.cols s.M :: .grid ro 106 ↑s.cols s.O :: os)) (fun v _ => 2 - (intOf v).toNat)
  case atStart => exact ⟨0, by omega, rfl, S1_.out⟩
  case round =>
   clear S1_
   obtain ⟨n, hn, rfl, hS⟩ := hrel
   have S1 := Lib.hid hS
   clear hS
   by_cases hlt : n < 2
   ·go_wp2_with fail
    refine (Grid_at S1.out (k := 0) rfl HG.out).mono ?_
    rintro e w1 ⟨gu, rfl, hS⟩
    have S2 := Lib.hid hS
    clear hS S1
    go_wp2_with fail
    refine (Main_at S2.out (k := 1) rfl HG.out).mono ?_
    rintro e w2 ⟨gm, rfl, hS⟩
    obtain ⟨vm, hS1⟩ := hS.openGrid (k := 4) rfl
    obtain ⟨vo, hS2⟩ := hS1.openGrid (k := 6) rfl
    obtain ⟨Ao, co, rfl, -, -⟩ := hS2.linesRd (k := 0) rfl
    obtain ⟨Am, cm, rfl, -, -⟩ := hS2.linesRd (k := 1) rfl
    have SX := Lib.hid (show Objs w0 w2 (.grid gm 83 ↑s.cols s.M :: .grid gu 83 ↑s.cols s.U :: pairO p s :: .box x 103 (rpv mr ro s.mode (s.kept.getD saved0) s.kept.isSome) :: .box mr 106 #[.int .i64 ↑s.cols, .slice Am s.M.length cm] :: .box ro 106 #[.int .i64 ↑s.cols, .slice Ao s.O.length co] :: .lines (.slice Am s.M.length cm) s.M :: .lines (.slice Ao s.O.length co) s.O :: os) from (Objs.pick (σ := [_, _, _, _, _, _, _, _]) (os := os) hS2 [some 2, some 3, some 4, some 5, some 6, some 7, some 1, some 0] (by decide) rfl))
    clear hS hS1 hS2 S2
    by_cases hm0 : s.mode = 0
    ·have HM0 := Lib.hid hm0
     have S3 := Lib.hid (by have h := SX.out; rw [show s.U = s.M from if_pos hm0] at h; exact h)
     have HU := HG.out.M
     have HU := Lib.hid HU
     clear hm0 SX
     go_upto_region 7 with (fail)
     refine wp_region_stage (w0 := w0) (os := os) (by kernel_rfl) (by kernel_rfl) (by kernel_rfl) [(0, 8, [8], fun vs => .lines (vs 8) s.M), (1, 19, [19], fun vs => .lines (vs 19) s.M)] [[], [], [], [], [], [], [], [], [0, 3], [], [5], [], [], [6], [0, 8], [], [], [], [], [1, 2], [], [], [], [5], [], [], [6], [1, 8], [], [], [], [], [3], [], [], [], [5], [], [], [6], [], [], [], [], [2], [], [], [], [5], [], [], [6], [], []] [.none, .none, .grid gm 83 ↑s.cols s.M, .grid gu 83 ↑s.cols s.M, pairO p s, .box x 103 (rpv mr ro s.mode (s.kept.getD saved0) s.kept.isSome), .box mr 106 #[.int .i64 ↑s.cols, .slice Am s.M.length cm], .box ro 106 #[.int .i64 ↑s.cols, .slice Ao s.O.length co], .lines (.slice Am s.M.length cm) s.M, .lines (.slice Ao s.O.length co) s.O] (fun opn u => match opn with | 0 => u = .pointer (some ⟨gu, 0, none⟩) | 1 => u = .bool false | 2 => u = .bool false | 3 => u = .pointer (some ⟨gm, 0, none⟩) | 4 => u = .bool false | 5 => u = .bool false | 6 => u = .bool false | 7 => u = .pointer (some ⟨gu, 0, none⟩) | 8 => ∃ A c, u = .slice A s.M.length c | 9 => u = .pointer (some ⟨x, 0, none⟩) | 10 => u = .pointer (some ⟨mr, 0, none⟩) | 11 => u = .pointer (some ⟨mr, 0, none⟩) | 12 => u = .pointer (some ⟨mr, 1, none⟩) | 13 => u = .slice Am s.M.length cm | 14 => u = .bool true | 15 => u = .bool false | 16 => u = .bool false | 17 => u = .bool false | 18 => u = .pointer (some ⟨gm, 0, none⟩) | 19 => ∃ A c, u = .slice A s.M.length c | 20 => u = .pointer (some ⟨x, 0, none⟩) | 21 => u = .pointer (some ⟨x, 0, none⟩) | 22 => u = .pointer (some ⟨x, 0, none⟩) | 23 => u = .pointer (some ⟨mr, 0, none⟩) | 24 => u = .pointer (some ⟨mr, 0, none⟩) | 25 => u = .pointer (some ⟨mr, 1, none⟩) | 26 => u = .slice Am s.M.length cm | 27 => u = .bool true | 28 => u = .bool false | 29 => u = .bool false | 30 => u = .bool false | 31 => u = .pointer (some ⟨gu, 0, none⟩) | 32 => u = .int .i64 ↑s.cols | 33 => u = .pointer (some ⟨x, 0, none⟩) | 34 => u = .pointer (some ⟨x, 0, none⟩) | 35 => u = .pointer (some ⟨x, 0, none⟩) | 36 => u = .pointer (some ⟨mr, 0, none⟩) | 37 => u = .pointer (some ⟨mr, 0, none⟩) | 38 => u = .pointer (some ⟨mr, 0, none⟩) | 39 => u = .int .i64 ↑s.cols | 40 => u = .bool false | 41 => u = .bool false | 42 => u = .bool false | 43 => u = .pointer (some ⟨gm, 0, none⟩) | 44 => u = .int .i64 ↑s.cols | 45 => u = .pointer (some ⟨x, 0, none⟩) | 46 => u = .pointer (some ⟨x, 0, none⟩) | 47 => u = .pointer (some ⟨x, 0, none⟩) | 48 => u = .pointer (some ⟨mr, 0, none⟩) | 49 => u = .pointer (some ⟨mr, 0, none⟩) | 50 => u = .pointer (some ⟨mr, 0, none⟩) | 51 => u = .int .i64 ↑s.cols | 52 => u = .bool false | 53 => u = .bool false | _ => True) (fun vs => [.lines (vs 8) s.M, .lines (vs 19) s.M, .grid gm 83 ↑s.cols s.M, .grid gu 83 ↑s.cols s.M, pairO p s, .box x 103 (rpv mr ro s.mode (s.kept.getD saved0) s.kept.isSome), .box mr 106 #[.int .i64 ↑s.cols, .slice Am s.M.length cm], .box ro 106 #[.int .i64 ↑s.cols, .slice Ao s.O.length co], .lines (.slice Am s.M.length cm) s.M, .lines (.slice Ao s.O.length co) s.O]) (by kernel_rfl) (fun vs => by rfl) S3.out.pad.pad ?_ ?_
     ·apply sc
      ·intro a w' vs σ hS hl hs hk
       have f6 : a.tmps[6]?.getD undef = .pointer (some ⟨gu, 0, none⟩) := sof hk
       exact rp (pt gu 0) (by simp [execOp, Act.eval, f6, go_sem]) hl hs hS
      apply sc
      ·intro a w' vs σ hS hl hs hk
       have f37 : a.tmps[37]?.getD undef = .pointer (some ⟨gu, 0, none⟩) := sf hk 0
       exact rp (.bool false) (by simp [execOp, Act.eval, f37, go_sem]) hl hs hS
      apply sc
      ·intro a w' vs σ hS hl hs hk
       have f38 : a.tmps[38]?.getD undef = .bool false := sf hk 1
       exact rp (.bool false) (by simp [execOp, Act.eval, f38, go_sem]) hl hs hS
      apply sc
      ·intro a w' vs σ hS hl hs hk
       have f7 : a.tmps[7]?.getD undef = .pointer (some ⟨gm, 0, none⟩) := sof hk
       exact rq (pt gm 0) (wanted_yes rfl rfl rfl (svv hk 2)) (by simp [execOp, Act.eval, f7, go_sem]) hl hs hS
      apply sc
      ·intro a w' vs σ hS hl hs hk
       have f40 : a.tmps[40]?.getD undef = .pointer (some ⟨gm, 0, none⟩) := sf hk 3
       exact rq (.bool false) (wanted_yes rfl rfl rfl (svv hk 2)) (by simp [execOp, Act.eval, f40, go_sem]) hl hs hS
      apply sc
      ·intro a w' vs σ hS hl hs hk
       have f39 : a.tmps[39]?.getD undef = .bool false := sf hk 2
       have f41 : a.tmps[41]?.getD undef = .bool false := sf hk 4
       exact rp (.bool false) (by simp [execOp, Act.eval, f39, f41, go_sem]) hl hs hS
      apply sc
      ·intro a w' vs σ hS hl hs hk
       have f42 : a.tmps[42]?.getD undef = .bool false := sf hk 5
       exact rp (.bool false) (by simp [execOp, Act.eval, f42, go_sem]) hl hs hS
      apply sc
      ·intro a w' vs σ hS hl hs hk
       have f6 : a.tmps[6]?.getD undef = .pointer (some ⟨gu, 0, none⟩) := sof hk
       exact rq (pt gu 0) (wanted_yes rfl rfl rfl (svv hk 6)) (by simp [execOp, Act.eval, f6, go_sem]) hl hs hS
      apply sc
      ·intro a w' vs σ hS hl hs hk
       have e44 : a.tmps.getD 44 undef = .pointer (some ⟨gu, 0, none⟩) := svv hk 7
       have h1 : σ[0]? = some .none := hs 0 (by decide)
       exact ro_call (f := 40) (wanted_yes rfl rfl rfl (svv hk 6)) rfl (by simp only [List.map_toArray, List.map_cons, List.map_nil, Act.eval, e44] <;> rfl) (fun _ _ => by kernel_rfl) ((Lines_any hS (k := 3) (sg (hs 3 (by decide))) HG.out.c0 (HG.out.M.1.mill HG.out.cm) (by rw [HG.out.M.2.1]; have := HG.out.rm; omega)).mono fun e w2 ⟨v9, h3, h2⟩ => ⟨v9, h3, sp_set 0 (.lines v9 s.M) (by kernel_rfl) (by simp) (by decide) hl hs (by rfl) (h2.place (sg h1)) (by obtain ⟨A8, c8, e8, -, -⟩ := h2.linesRd (k := 0) rfl; exact ⟨A8, c8, e8⟩), trivial⟩)
      apply sc
      ·intro a w' vs σ hS hl hs hk
       have f1 : a.tmps[1]?.getD undef = .pointer (some ⟨x, 0, none⟩) := sof hk
       exact rq (pt x 0) (wanted_yes rfl rfl rfl (svv hk 6)) (by simp [execOp, Act.eval, f1, go_sem]) hl hs hS
      apply sc
      ·intro a w' vs σ hS hl hs hk
       have e46 : a.tmps.getD 46 undef = .pointer (some ⟨x, 0, none⟩) := svv hk 9
       have hcon := used_any hS (sg (hs 5 (by decide)))
       rw [if_pos HM0.out] at hcon
       exact ro_call (f := 51) (wanted_yes rfl rfl rfl (svv hk 6)) rfl (by simp only [List.map_toArray, List.map_cons, List.map_nil, Act.eval, e46] <;> rfl) (fun _ _ => by kernel_rfl) ((hcon).mono fun e w2 ⟨h1, h2⟩ => ⟨_, h1, sp_same (by kernel_rfl) hl hs h2 rfl, trivial⟩)
      apply sc
      ·intro a w' vs σ hS hl hs hk
       have f47 : a.tmps[47]?.getD undef = .pointer (some ⟨mr, 0, none⟩) := sf hk 10
       exact rq (pt mr 0) (wanted_yes rfl rfl rfl (svv hk 6)) (by simp [execOp, Act.eval, f47, go_sem]) hl hs hS
      apply sc
      ·intro a w' vs σ hS hl hs hk
       have f48 : a.tmps[48]?.getD undef = .pointer (some ⟨mr, 0, none⟩) := sf hk 11
       exact rq (pt mr 1) (wanted_yes rfl rfl rfl (svv hk 6)) (by simp [execOp, Act.eval, f48, go_sem]) hl hs hS
      apply sc
      ·intro a w' vs σ hS hl hs hk
       have f49 : a.tmps[49]?.getD undef = .pointer (some ⟨mr, 1, none⟩) := sf hk 12
       have hx := (hS.box (sg (hs 6 (by decide)))).cell
       exact rq (.slice Am s.M.length cm) (wanted_yes rfl rfl rfl (svv hk 6)) (by simp [execOp, Act.eval, f49, go_sem, hx]) hl hs hS
      apply sc
      ·intro a w' vs σ hS hl hs hk
       have e45 : a.tmps.getD 45 undef = vs 8 := sk_val hk 8 (by kernel_rfl) rfl rfl
       have p45 : (fun u : Value => ∃ A c, u = .slice A s.M.length c) (vs 8) := (hk.1 8 (by kernel_rfl)).1
       have e50 : a.tmps.getD 50 undef = .slice Am s.M.length cm := svv hk 13
       obtain ⟨A9, c9, q9⟩ := p45
       rw [q9] at e45
       have h0 : σ[0]? = some (.lines (vs 8) s.M) := hs 0 (by decide)
       rw [q9] at h0
       have hcon := r14SameLines_any A9 Am c9 cm s.M s.M w' (hS.linesRd' (sg h0)).2.2 (hS.linesRd' (sg (hs 8 (by decide)))).2.2 (by rw [HG.out.M.2.1]; have := HG.out.rm; omega) (by rw [HG.out.M.2.1]; have := HG.out.rm; omega) (HG.out.M.1.mill HG.out.cm) (HG.out.M.1.mill HG.out.cm)
       rw [show decide (s.M = s.M) = true by simp] at hcon
       exact ro_call (f := 50) (wanted_yes rfl rfl rfl (svv hk 6)) rfl (by simp only [List.map_toArray, List.map_cons, List.map_nil, Act.eval, e45, e50] <;> rfl) (fun _ _ => by kernel_rfl) (hcon.mono fun e w2 ⟨h1, h2⟩ => ⟨_, h1, sp_same (by kernel_rfl) hl hs (hS.bel h2) rfl, trivial⟩)
      apply sc
      ·intro a w' vs σ hS hl hs hk
       have f51 : a.tmps[51]?.getD undef = .bool true := sf hk 14
       exact rq (.bool false) (wanted_yes rfl rfl rfl (svv hk 6)) (by simp [execOp, Act.eval, f51, go_sem]) hl hs hS
      apply sc
      ·intro a w' vs σ hS hl hs hk
       have f43 : a.tmps[43]?.getD undef = .bool false := sf hk 6
       have f52 : a.tmps[52]?.getD undef = .bool false := sf hk 15
       exact rp (.bool false) (by simp [execOp, Act.eval, f43, f52, go_sem]) hl hs hS
      apply sc
      ·intro a w' vs σ hS hl hs hk
       have f53 : a.tmps[53]?.getD undef = .bool false := sf hk 16
       exact rp (.bool false) (by simp [execOp, Act.eval, f53, go_sem]) hl hs hS
      apply sc
      ·intro a w' vs σ hS hl hs hk
       have f7 : a.tmps[7]?.getD undef = .pointer (some ⟨gm, 0, none⟩) := sof hk
       exact rq (pt gm 0) (wanted_yes rfl rfl rfl (svv hk 17)) (by simp [execOp, Act.eval, f7, go_sem]) hl hs hS
      apply sc
      ·intro a w' vs σ hS hl hs hk
       have e55 : a.tmps.getD 55 undef = .pointer (some ⟨gm, 0, none⟩) := svv hk 18
       have h1 : σ[1]? = some .none := hs 1 (by decide)
       exact ro_call (f := 40) (wanted_yes rfl rfl rfl (svv hk 17)) rfl (by simp only [List.map_toArray, List.map_cons, List.map_nil, Act.eval, e55] <;> rfl) (fun _ _ => by kernel_rfl) ((Lines_any hS (k := 2) (sg (hs 2 (by decide))) HG.out.c0 (HG.out.M.1.mill HG.out.cm) (by rw [HG.out.M.2.1]; have := HG.out.rm; omega)).mono fun e w2 ⟨v9, h3, h2⟩ => ⟨v9, h3, sp_set 1 (.lines v9 s.M) (by kernel_rfl) (by simp) (by decide) hl hs (by rfl) (h2.place (sg h1)) (by obtain ⟨A8, c8, e8, -, -⟩ := h2.linesRd (k := 0) rfl; exact ⟨A8, c8, e8⟩), trivial⟩)
      apply sc
      ·intro a w' vs σ hS hl hs hk
       have f1 : a.tmps[1]?.getD undef = .pointer (some ⟨x, 0, none⟩) := sof hk
       exact rq (pt x 0) (wanted_yes rfl rfl rfl (svv hk 17)) (by simp [execOp, Act.eval, f1, go_sem]) hl hs hS
      apply sc
      ·intro a w' vs σ hS hl hs hk
       have f57 : a.tmps[57]?.getD undef = .pointer (some ⟨x, 0, none⟩) := sf hk 20
       exact rq (pt x 0) (wanted_yes rfl rfl rfl (svv hk 17)) (by simp [execOp, Act.eval, f57, go_sem]) hl hs hS
      apply sc
      ·intro a w' vs σ hS hl hs hk
       have f58 : a.tmps[58]?.getD undef = .pointer (some ⟨x, 0, none⟩) := sf hk 21
       exact rq (pt x 0) (wanted_yes rfl rfl rfl (svv hk 17)) (by simp [execOp, Act.eval, f58, go_sem]) hl hs hS
      apply sc
      ·intro a w' vs σ hS hl hs hk
       have f59 : a.tmps[59]?.getD undef = .pointer (some ⟨x, 0, none⟩) := sf hk 22
       have hx := (hS.box (sg (hs 5 (by decide)))).rpair.1
       exact rq (pt mr 0) (wanted_yes rfl rfl rfl (svv hk 17)) (by simp [execOp, Act.eval, f59, go_sem, hx]) hl hs hS
      apply sc
      ·intro a w' vs σ hS hl hs hk
       have f60 : a.tmps[60]?.getD undef = .pointer (some ⟨mr, 0, none⟩) := sf hk 23
       exact rq (pt mr 0) (wanted_yes rfl rfl rfl (svv hk 17)) (by simp [execOp, Act.eval, f60, go_sem]) hl hs hS
      apply sc
      ·intro a w' vs σ hS hl hs hk
       have f61 : a.tmps[61]?.getD undef = .pointer (some ⟨mr, 0, none⟩) := sf hk 24
       exact rq (pt mr 1) (wanted_yes rfl rfl rfl (svv hk 17)) (by simp [execOp, Act.eval, f61, go_sem]) hl hs hS
      apply sc
      ·intro a w' vs σ hS hl hs hk
       have f62 : a.tmps[62]?.getD undef = .pointer (some ⟨mr, 1, none⟩) := sf hk 25
       have hx := (hS.box (sg (hs 6 (by decide)))).cell
       exact rq (.slice Am s.M.length cm) (wanted_yes rfl rfl rfl (svv hk 17)) (by simp [execOp, Act.eval, f62, go_sem, hx]) hl hs hS
      apply sc
      ·intro a w' vs σ hS hl hs hk
       have e56 : a.tmps.getD 56 undef = vs 19 := sk_val hk 19 (by kernel_rfl) rfl rfl
       have p56 : (fun u : Value => ∃ A c, u = .slice A s.M.length c) (vs 19) := (hk.1 19 (by kernel_rfl)).1
       have e63 : a.tmps.getD 63 undef = .slice Am s.M.length cm := svv hk 26
       obtain ⟨A9, c9, q9⟩ := p56
       rw [q9] at e56
       have h0 : σ[1]? = some (.lines (vs 19) s.M) := hs 1 (by decide)
       rw [q9] at h0
       have hcon := r14SameLines_any A9 Am c9 cm s.M s.M w' (hS.linesRd' (sg h0)).2.2 (hS.linesRd' (sg (hs 8 (by decide)))).2.2 (by rw [HG.out.M.2.1]; have := HG.out.rm; omega) (by rw [HG.out.M.2.1]; have := HG.out.rm; omega) (HG.out.M.1.mill HG.out.cm) (HG.out.M.1.mill HG.out.cm)
       rw [show decide (s.M = s.M) = true by simp] at hcon
       exact ro_call (f := 50) (wanted_yes rfl rfl rfl (svv hk 17)) rfl (by simp only [List.map_toArray, List.map_cons, List.map_nil, Act.eval, e56, e63] <;> rfl) (fun _ _ => by kernel_rfl) (hcon.mono fun e w2 ⟨h1, h2⟩ => ⟨_, h1, sp_same (by kernel_rfl) hl hs (hS.bel h2) rfl, trivial⟩)
      apply sc
      ·intro a w' vs σ hS hl hs hk
       have f64 : a.tmps[64]?.getD undef = .bool true := sf hk 27
       exact rq (.bool false) (wanted_yes rfl rfl rfl (svv hk 17)) (by simp [execOp, Act.eval, f64, go_sem]) hl hs hS
      apply sc
      ·intro a w' vs σ hS hl hs hk
       have f54 : a.tmps[54]?.getD undef = .bool false := sf hk 17
       have f65 : a.tmps[65]?.getD undef = .bool false := sf hk 28
       exact rp (.bool false) (by simp [execOp, Act.eval, f54, f65, go_sem]) hl hs hS
      apply sc
      ·intro a w' vs σ hS hl hs hk
       have f66 : a.tmps[66]?.getD undef = .bool false := sf hk 29
       exact rp (.bool false) (by simp [execOp, Act.eval, f66, go_sem]) hl hs hS
      apply sc
      ·intro a w' vs σ hS hl hs hk
       have f6 : a.tmps[6]?.getD undef = .pointer (some ⟨gu, 0, none⟩) := sof hk
       exact rq (pt gu 0) (wanted_yes rfl rfl rfl (svv hk 30)) (by simp [execOp, Act.eval, f6, go_sem]) hl hs hS
      apply sc
      ·intro a w' vs σ hS hl hs hk
       have e68 : a.tmps.getD 68 undef = .pointer (some ⟨gu, 0, none⟩) := svv hk 31
       exact ro_call (f := 29) (wanted_yes rfl rfl rfl (svv hk 30)) rfl (by simp only [List.map_toArray, List.map_cons, List.map_nil, Act.eval, e68] <;> rfl) (fun _ _ => by kernel_rfl) ((Cols_any hS (sg (hs 3 (by decide)))).mono fun e w2 ⟨h1, h2⟩ => ⟨_, h1, sp_same (by kernel_rfl) hl hs h2 rfl, trivial⟩)
      apply sc
      ·intro a w' vs σ hS hl hs hk
       have f1 : a.tmps[1]?.getD undef = .pointer (some ⟨x, 0, none⟩) := sof hk
       exact rq (pt x 0) (wanted_yes rfl rfl rfl (svv hk 30)) (by simp [execOp, Act.eval, f1, go_sem]) hl hs hS
      apply sc
      ·intro a w' vs σ hS hl hs hk
       have f70 : a.tmps[70]?.getD undef = .pointer (some ⟨x, 0, none⟩) := sf hk 33
       exact rq (pt x 0) (wanted_yes rfl rfl rfl (svv hk 30)) (by simp [execOp, Act.eval, f70, go_sem]) hl hs hS
      apply sc
      ·intro a w' vs σ hS hl hs hk
       have f71 : a.tmps[71]?.getD undef = .pointer (some ⟨x, 0, none⟩) := sf hk 34
       exact rq (pt x 0) (wanted_yes rfl rfl rfl (svv hk 30)) (by simp [execOp, Act.eval, f71, go_sem]) hl hs hS
      apply sc
      ·intro a w' vs σ hS hl hs hk
       have f72 : a.tmps[72]?.getD undef = .pointer (some ⟨x, 0, none⟩) := sf hk 35
       have hx := (hS.box (sg (hs 5 (by decide)))).rpair.1
       exact rq (pt mr 0) (wanted_yes rfl rfl rfl (svv hk 30)) (by simp [execOp, Act.eval, f72, go_sem, hx]) hl hs hS
      apply sc
      ·intro a w' vs σ hS hl hs hk
       have f73 : a.tmps[73]?.getD undef = .pointer (some ⟨mr, 0, none⟩) := sf hk 36
       exact rq (pt mr 0) (wanted_yes rfl rfl rfl (svv hk 30)) (by simp [execOp, Act.eval, f73, go_sem]) hl hs hS
      apply sc
      ·intro a w' vs σ hS hl hs hk
       have f74 : a.tmps[74]?.getD undef = .pointer (some ⟨mr, 0, none⟩) := sf hk 37
       exact rq (pt mr 0) (wanted_yes rfl rfl rfl (svv hk 30)) (by simp [execOp, Act.eval, f74, go_sem]) hl hs hS
      apply sc
      ·intro a w' vs σ hS hl hs hk
       have f75 : a.tmps[75]?.getD undef = .pointer (some ⟨mr, 0, none⟩) := sf hk 38
       have hx := (hS.box (sg (hs 6 (by decide)))).cell
       exact rq (.int .i64 ↑s.cols) (wanted_yes rfl rfl rfl (svv hk 30)) (by simp [execOp, Act.eval, f75, go_sem, hx]) hl hs hS
      apply sc
      ·intro a w' vs σ hS hl hs hk
       have f69 : a.tmps[69]?.getD undef = .int .i64 ↑s.cols := sf hk 32
       have f76 : a.tmps[76]?.getD undef = .int .i64 ↑s.cols := sf hk 39
       exact rq (.bool false) (wanted_yes rfl rfl rfl (svv hk 30)) (by simp [execOp, Act.eval, f69, f76, go_sem]) hl hs hS
      apply sc
      ·intro a w' vs σ hS hl hs hk
       have f67 : a.tmps[67]?.getD undef = .bool false := sf hk 30
       have f77 : a.tmps[77]?.getD undef = .bool false := sf hk 40
       exact rp (.bool false) (by simp [execOp, Act.eval, f67, f77, go_sem]) hl hs hS
      apply sc
      ·intro a w' vs σ hS hl hs hk
       have f78 : a.tmps[78]?.getD undef = .bool false := sf hk 41
       exact rp (.bool false) (by simp [execOp, Act.eval, f78, go_sem]) hl hs hS
      apply sc
      ·intro a w' vs σ hS hl hs hk
       have f7 : a.tmps[7]?.getD undef = .pointer (some ⟨gm, 0, none⟩) := sof hk
       exact rq (pt gm 0) (wanted_yes rfl rfl rfl (svv hk 42)) (by simp [execOp, Act.eval, f7, go_sem]) hl hs hS
      apply sc
      ·intro a w' vs σ hS hl hs hk
       have e80 : a.tmps.getD 80 undef = .pointer (some ⟨gm, 0, none⟩) := svv hk 43
       exact ro_call (f := 29) (wanted_yes rfl rfl rfl (svv hk 42)) rfl (by simp only [List.map_toArray, List.map_cons, List.map_nil, Act.eval, e80] <;> rfl) (fun _ _ => by kernel_rfl) ((Cols_any hS (sg (hs 2 (by decide)))).mono fun e w2 ⟨h1, h2⟩ => ⟨_, h1, sp_same (by kernel_rfl) hl hs h2 rfl, trivial⟩)
      apply sc
      ·intro a w' vs σ hS hl hs hk
       have f1 : a.tmps[1]?.getD undef = .pointer (some ⟨x, 0, none⟩) := sof hk
       exact rq (pt x 0) (wanted_yes rfl rfl rfl (svv hk 42)) (by simp [execOp, Act.eval, f1, go_sem]) hl hs hS
      apply sc
      ·intro a w' vs σ hS hl hs hk
       have f82 : a.tmps[82]?.getD undef = .pointer (some ⟨x, 0, none⟩) := sf hk 45
       exact rq (pt x 0) (wanted_yes rfl rfl rfl (svv hk 42)) (by simp [execOp, Act.eval, f82, go_sem]) hl hs hS
      apply sc
      ·intro a w' vs σ hS hl hs hk
       have f83 : a.tmps[83]?.getD undef = .pointer (some ⟨x, 0, none⟩) := sf hk 46
       exact rq (pt x 0) (wanted_yes rfl rfl rfl (svv hk 42)) (by simp [execOp, Act.eval, f83, go_sem]) hl hs hS
      apply sc
      ·intro a w' vs σ hS hl hs hk
       have f84 : a.tmps[84]?.getD undef = .pointer (some ⟨x, 0, none⟩) := sf hk 47
       have hx := (hS.box (sg (hs 5 (by decide)))).rpair.1
       exact rq (pt mr 0) (wanted_yes rfl rfl rfl (svv hk 42)) (by simp [execOp, Act.eval, f84, go_sem, hx]) hl hs hS
      apply sc
      ·intro a w' vs σ hS hl hs hk
       have f85 : a.tmps[85]?.getD undef = .pointer (some ⟨mr, 0, none⟩) := sf hk 48
       exact rq (pt mr 0) (wanted_yes rfl rfl rfl (svv hk 42)) (by simp [execOp, Act.eval, f85, go_sem]) hl hs hS
      apply sc
      ·intro a w' vs σ hS hl hs hk
       have f86 : a.tmps[86]?.getD undef = .pointer (some ⟨mr, 0, none⟩) := sf hk 49
       exact rq (pt mr 0) (wanted_yes rfl rfl rfl (svv hk 42)) (by simp [execOp, Act.eval, f86, go_sem]) hl hs hS
      apply sc
      ·intro a w' vs σ hS hl hs hk
       have f87 : a.tmps[87]?.getD undef = .pointer (some ⟨mr, 0, none⟩) := sf hk 50
       have hx := (hS.box (sg (hs 6 (by decide)))).cell
       exact rq (.int .i64 ↑s.cols) (wanted_yes rfl rfl rfl (svv hk 42)) (by simp [execOp, Act.eval, f87, go_sem, hx]) hl hs hS
      apply sc
      ·intro a w' vs σ hS hl hs hk
       have f81 : a.tmps[81]?.getD undef = .int .i64 ↑s.cols := sf hk 44
       have f88 : a.tmps[88]?.getD undef = .int .i64 ↑s.cols := sf hk 51
       exact rq (.bool false) (wanted_yes rfl rfl rfl (svv hk 42)) (by simp [execOp, Act.eval, f81, f88, go_sem]) hl hs hS
      apply sc
      ·intro a w' vs σ hS hl hs hk
       have f79 : a.tmps[79]?.getD undef = .bool false := sf hk 42
       have f89 : a.tmps[89]?.getD undef = .bool false := sf hk 52
       exact rp (.bool false) (by simp [execOp, Act.eval, f79, f89, go_sem]) hl hs hS
      exact SSteps.nil
     ·intro vs w' hS hv
      have q0 : vs 0 = _ := hv 0 (by decide)
      have q1 : vs 1 = _ := hv 1 (by decide)
      have q2 : vs 2 = _ := hv 2 (by decide)
      have q3 : vs 3 = _ := hv 3 (by decide)
      have q4 : vs 4 = _ := hv 4 (by decide)
      have q5 : vs 5 = _ := hv 5 (by decide)
      have q6 : vs 6 = _ := hv 6 (by decide)
      have q7 : vs 7 = _ := hv 7 (by decide)
      have q9 : vs 9 = _ := hv 9 (by decide)
      have q10 : vs 10 = _ := hv 10 (by decide)
      have q11 : vs 11 = _ := hv 11 (by decide)
      have q12 : vs 12 = _ := hv 12 (by decide)
      have q13 : vs 13 = _ := hv 13 (by decide)
      have q14 : vs 14 = _ := hv 14 (by decide)
      have q15 : vs 15 = _ := hv 15 (by decide)
      have q16 : vs 16 = _ := hv 16 (by decide)
      have q17 : vs 17 = _ := hv 17 (by decide)
      have q18 : vs 18 = _ := hv 18 (by decide)
      have q20 : vs 20 = _ := hv 20 (by decide)
      have q21 : vs 21 = _ := hv 21 (by decide)
      have q22 : vs 22 = _ := hv 22 (by decide)
      have q23 : vs 23 = _ := hv 23 (by decide)
      have q24 : vs 24 = _ := hv 24 (by decide)
      have q25 : vs 25 = _ := hv 25 (by decide)
      have q26 : vs 26 = _ := hv 26 (by decide)
      have q27 : vs 27 = _ := hv 27 (by decide)
      have q28 : vs 28 = _ := hv 28 (by decide)
      have q29 : vs 29 = _ := hv 29 (by decide)
      have q30 : vs 30 = _ := hv 30 (by decide)
      have q31 : vs 31 = _ := hv 31 (by decide)
      have q32 : vs 32 = _ := hv 32 (by decide)
      have q33 : vs 33 = _ := hv 33 (by decide)
      have q34 : vs 34 = _ := hv 34 (by decide)
      have q35 : vs 35 = _ := hv 35 (by decide)
      have q36 : vs 36 = _ := hv 36 (by decide)
      have q37 : vs 37 = _ := hv 37 (by decide)
      have q38 : vs 38 = _ := hv 38 (by decide)
      have q39 : vs 39 = _ := hv 39 (by decide)
      have q40 : vs 40 = _ := hv 40 (by decide)
      have q41 : vs 41 = _ := hv 41 (by decide)
      have q42 : vs 42 = _ := hv 42 (by decide)
      have q43 : vs 43 = _ := hv 43 (by decide)
      have q44 : vs 44 = _ := hv 44 (by decide)
      have q45 : vs 45 = _ := hv 45 (by decide)
      have q46 : vs 46 = _ := hv 46 (by decide)
      have q47 : vs 47 = _ := hv 47 (by decide)
      have q48 : vs 48 = _ := hv 48 (by decide)
      have q49 : vs 49 = _ := hv 49 (by decide)
      have q50 : vs 50 = _ := hv 50 (by decide)
      have q51 : vs 51 = _ := hv 51 (by decide)
      have q52 : vs 52 = _ := hv 52 (by decide)
      have q53 : vs 53 = _ := hv 53 (by decide)
      have S2 := Lib.hid hS
      simp only [putL, Act.put, Nat.zero_add, Nat.reduceAdd, List.setIfInBounds_toArray, List.set_cons_succ, List.set_cons_zero, q0, q1, q2, q3, q4, q5, q6, q7, q9, q10, q11, q12, q13, q14, q15, q16, q17, q18, q20, q21, q22, q23, q24, q25, q26, q27, q28, q29, q30, q31, q32, q33, q34, q35, q36, q37, q38, q39, q40, q41, q42, q43, q44, q45, q46, q47, q48, q49, q50, q51, q52, q53]
      clear hS hv q0 q1 q2 q3 q4 q5 q6 q7 q9 q10 q11 q12 q13 q14 q15 q16 q17 q18 q20 q21 q22 q23 q24 q25 q26 q27 q28 q29 q30 q31 q32 q33 q34 q35 q36 q37 q38 q39 q40 q41 q42 q43 q44 q45 q46 q47 q48 q49 q50 q51 q52 q53
      have S4 := S2
      clear S2 S3
      go_wp2_with fail
      refine (put24_any (row := 0) (col := 0) _ HT.out (show Objs w0 _ (.grid gu 83 ↑s.cols _ :: _) from (Objs.pick (σ := [_, _, _, _, _, _, _, _, _, _]) (os := os) S4.out [some 3, some 2, some 4, some 5, some 6, some 7, some 8, some 9] (by decide) rfl)) HG.out.c0 HG.out.cm HU.out.1).mono ?_
      rintro e w5 ⟨rfl, hS⟩
      have S5 := Lib.hid hS
      clear hS S4
      go_wp2_with fail
      refine (put24_any (row := 0) (col := 0) _ HT.out (show Objs w0 _ (.grid gm 83 ↑s.cols _ :: _) from S5.out.tail) HG.out.c0 HG.out.cm HG.out.M.1).mono ?_
      rintro e w6 ⟨rfl, hS⟩
      have S6 := Lib.hid hS
      clear hS S5
      go_wp2_with fail
      go_roundw
      case rel => exact ⟨n + 1, by omega, by go_num, alike_close S6.out.tail⟩
      case measure => simp [intOf]; omega
    ·have HM0 := Lib.hid hm0
     have S3 := Lib.hid (by have h := SX.out; rw [show s.U = s.O from if_neg hm0] at h; exact h)
     have HU := HG.out.O
     have HU := Lib.hid HU
     clear hm0 SX
     go_upto_region 7 with (fail)
     refine wp_region_stage (w0 := w0) (os := os) (by kernel_rfl) (by kernel_rfl) (by kernel_rfl) [(0, 8, [8], fun vs => .lines (vs 8) s.O), (1, 19, [19], fun vs => .lines (vs 19) s.M)] [[], [], [], [], [], [], [], [], [0, 3], [], [5], [], [], [7], [0, 9], [], [], [], [], [1, 2], [], [], [], [5], [], [], [6], [1, 8], [], [], [], [], [3], [], [], [], [5], [], [], [6], [], [], [], [], [2], [], [], [], [5], [], [], [6], [], []] [.none, .none, .grid gm 83 ↑s.cols s.M, .grid gu 83 ↑s.cols s.O, pairO p s, .box x 103 (rpv mr ro s.mode (s.kept.getD saved0) s.kept.isSome), .box mr 106 #[.int .i64 ↑s.cols, .slice Am s.M.length cm], .box ro 106 #[.int .i64 ↑s.cols, .slice Ao s.O.length co], .lines (.slice Am s.M.length cm) s.M, .lines (.slice Ao s.O.length co) s.O] (fun opn u => match opn with | 0 => u = .pointer (some ⟨gu, 0, none⟩) | 1 => u = .bool false | 2 => u = .bool false | 3 => u = .pointer (some ⟨gm, 0, none⟩) | 4 => u = .bool false | 5 => u = .bool false | 6 => u = .bool false | 7 => u = .pointer (some ⟨gu, 0, none⟩) | 8 => ∃ A c, u = .slice A s.O.length c | 9 => u = .pointer (some ⟨x, 0, none⟩) | 10 => u = .pointer (some ⟨ro, 0, none⟩) | 11 => u = .pointer (some ⟨ro, 0, none⟩) | 12 => u = .pointer (some ⟨ro, 1, none⟩) | 13 => u = .slice Ao s.O.length co | 14 => u = .bool true | 15 => u = .bool false | 16 => u = .bool false | 17 => u = .bool false | 18 => u = .pointer (some ⟨gm, 0, none⟩) | 19 => ∃ A c, u = .slice A s.M.length c | 20 => u = .pointer (some ⟨x, 0, none⟩) | 21 => u = .pointer (some ⟨x, 0, none⟩) | 22 => u = .pointer (some ⟨x, 0, none⟩) | 23 => u = .pointer (some ⟨mr, 0, none⟩) | 24 => u = .pointer (some ⟨mr, 0, none⟩) | 25 => u = .pointer (some ⟨mr, 1, none⟩) | 26 => u = .slice Am s.M.length cm | 27 => u = .bool true | 28 => u = .bool false | 29 => u = .bool false | 30 => u = .bool false | 31 => u = .pointer (some ⟨gu, 0, none⟩) | 32 => u = .int .i64 ↑s.cols | 33 => u = .pointer (some ⟨x, 0, none⟩) | 34 => u = .pointer (some ⟨x, 0, none⟩) | 35 => u = .pointer (some ⟨x, 0, none⟩) | 36 => u = .pointer (some ⟨mr, 0, none⟩) | 37 => u = .pointer (some ⟨mr, 0, none⟩) | 38 => u = .pointer (some ⟨mr, 0, none⟩) | 39 => u = .int .i64 ↑s.cols | 40 => u = .bool false | 41 => u = .bool false | 42 => u = .bool false | 43 => u = .pointer (some ⟨gm, 0, none⟩) | 44 => u = .int .i64 ↑s.cols | 45 => u = .pointer (some ⟨x, 0, none⟩) | 46 => u = .pointer (some ⟨x, 0, none⟩) | 47 => u = .pointer (some ⟨x, 0, none⟩) | 48 => u = .pointer (some ⟨mr, 0, none⟩) | 49 => u = .pointer (some ⟨mr, 0, none⟩) | 50 => u = .pointer (some ⟨mr, 0, none⟩) | 51 => u = .int .i64 ↑s.cols | 52 => u = .bool false | 53 => u = .bool false | _ => True) (fun vs => [.lines (vs 8) s.O, .lines (vs 19) s.M, .grid gm 83 ↑s.cols s.M, .grid gu 83 ↑s.cols s.O, pairO p s, .box x 103 (rpv mr ro s.mode (s.kept.getD saved0) s.kept.isSome), .box mr 106 #[.int .i64 ↑s.cols, .slice Am s.M.length cm], .box ro 106 #[.int .i64 ↑s.cols, .slice Ao s.O.length co], .lines (.slice Am s.M.length cm) s.M, .lines (.slice Ao s.O.length co) s.O]) (by kernel_rfl) (fun vs => by rfl) S3.out.pad.pad ?_ ?_
     ·apply sc
      ·intro a w' vs σ hS hl hs hk
       have f6 : a.tmps[6]?.getD undef = .pointer (some ⟨gu, 0, none⟩) := sof hk
       exact rp (pt gu 0) (by simp [execOp, Act.eval, f6, go_sem]) hl hs hS
      apply sc
      ·intro a w' vs σ hS hl hs hk
       have f37 : a.tmps[37]?.getD undef = .pointer (some ⟨gu, 0, none⟩) := sf hk 0
       exact rp (.bool false) (by simp [execOp, Act.eval, f37, go_sem]) hl hs hS
      apply sc
      ·intro a w' vs σ hS hl hs hk
       have f38 : a.tmps[38]?.getD undef = .bool false := sf hk 1
       exact rp (.bool false) (by simp [execOp, Act.eval, f38, go_sem]) hl hs hS
      apply sc
      ·intro a w' vs σ hS hl hs hk
       have f7 : a.tmps[7]?.getD undef = .pointer (some ⟨gm, 0, none⟩) := sof hk
       exact rq (pt gm 0) (wanted_yes rfl rfl rfl (svv hk 2)) (by simp [execOp, Act.eval, f7, go_sem]) hl hs hS
      apply sc
      ·intro a w' vs σ hS hl hs hk
       have f40 : a.tmps[40]?.getD undef = .pointer (some ⟨gm, 0, none⟩) := sf hk 3
       exact rq (.bool false) (wanted_yes rfl rfl rfl (svv hk 2)) (by simp [execOp, Act.eval, f40, go_sem]) hl hs hS
      apply sc
      ·intro a w' vs σ hS hl hs hk
       have f39 : a.tmps[39]?.getD undef = .bool false := sf hk 2
       have f41 : a.tmps[41]?.getD undef = .bool false := sf hk 4
       exact rp (.bool false) (by simp [execOp, Act.eval, f39, f41, go_sem]) hl hs hS
      apply sc
      ·intro a w' vs σ hS hl hs hk
       have f42 : a.tmps[42]?.getD undef = .bool false := sf hk 5
       exact rp (.bool false) (by simp [execOp, Act.eval, f42, go_sem]) hl hs hS
      apply sc
      ·intro a w' vs σ hS hl hs hk
       have f6 : a.tmps[6]?.getD undef = .pointer (some ⟨gu, 0, none⟩) := sof hk
       exact rq (pt gu 0) (wanted_yes rfl rfl rfl (svv hk 6)) (by simp [execOp, Act.eval, f6, go_sem]) hl hs hS
      apply sc
      ·intro a w' vs σ hS hl hs hk
       have e44 : a.tmps.getD 44 undef = .pointer (some ⟨gu, 0, none⟩) := svv hk 7
       have h1 : σ[0]? = some .none := hs 0 (by decide)
       exact ro_call (f := 40) (wanted_yes rfl rfl rfl (svv hk 6)) rfl (by simp only [List.map_toArray, List.map_cons, List.map_nil, Act.eval, e44] <;> rfl) (fun _ _ => by kernel_rfl) ((Lines_any hS (k := 3) (sg (hs 3 (by decide))) HG.out.c0 (HG.out.O.1.mill HG.out.cm) (by rw [HG.out.O.2.1]; have := HG.out.rm; omega)).mono fun e w2 ⟨v9, h3, h2⟩ => ⟨v9, h3, sp_set 0 (.lines v9 s.O) (by kernel_rfl) (by simp) (by decide) hl hs (by rfl) (h2.place (sg h1)) (by obtain ⟨A8, c8, e8, -, -⟩ := h2.linesRd (k := 0) rfl; exact ⟨A8, c8, e8⟩), trivial⟩)
      apply sc
      ·intro a w' vs σ hS hl hs hk
       have f1 : a.tmps[1]?.getD undef = .pointer (some ⟨x, 0, none⟩) := sof hk
       exact rq (pt x 0) (wanted_yes rfl rfl rfl (svv hk 6)) (by simp [execOp, Act.eval, f1, go_sem]) hl hs hS
      apply sc
      ·intro a w' vs σ hS hl hs hk
       have e46 : a.tmps.getD 46 undef = .pointer (some ⟨x, 0, none⟩) := svv hk 9
       have hcon := used_any hS (sg (hs 5 (by decide)))
       rw [if_neg HM0.out] at hcon
       exact ro_call (f := 51) (wanted_yes rfl rfl rfl (svv hk 6)) rfl (by simp only [List.map_toArray, List.map_cons, List.map_nil, Act.eval, e46] <;> rfl) (fun _ _ => by kernel_rfl) ((hcon).mono fun e w2 ⟨h1, h2⟩ => ⟨_, h1, sp_same (by kernel_rfl) hl hs h2 rfl, trivial⟩)
      apply sc
      ·intro a w' vs σ hS hl hs hk
       have f47 : a.tmps[47]?.getD undef = .pointer (some ⟨ro, 0, none⟩) := sf hk 10
       exact rq (pt ro 0) (wanted_yes rfl rfl rfl (svv hk 6)) (by simp [execOp, Act.eval, f47, go_sem]) hl hs hS
      apply sc
      ·intro a w' vs σ hS hl hs hk
       have f48 : a.tmps[48]?.getD undef = .pointer (some ⟨ro, 0, none⟩) := sf hk 11
       exact rq (pt ro 1) (wanted_yes rfl rfl rfl (svv hk 6)) (by simp [execOp, Act.eval, f48, go_sem]) hl hs hS
      apply sc
      ·intro a w' vs σ hS hl hs hk
       have f49 : a.tmps[49]?.getD undef = .pointer (some ⟨ro, 1, none⟩) := sf hk 12
       have hx := (hS.box (sg (hs 7 (by decide)))).cell
       exact rq (.slice Ao s.O.length co) (wanted_yes rfl rfl rfl (svv hk 6)) (by simp [execOp, Act.eval, f49, go_sem, hx]) hl hs hS
      apply sc
      ·intro a w' vs σ hS hl hs hk
       have e45 : a.tmps.getD 45 undef = vs 8 := sk_val hk 8 (by kernel_rfl) rfl rfl
       have p45 : (fun u : Value => ∃ A c, u = .slice A s.O.length c) (vs 8) := (hk.1 8 (by kernel_rfl)).1
       have e50 : a.tmps.getD 50 undef = .slice Ao s.O.length co := svv hk 13
       obtain ⟨A9, c9, q9⟩ := p45
       rw [q9] at e45
       have h0 : σ[0]? = some (.lines (vs 8) s.O) := hs 0 (by decide)
       rw [q9] at h0
       have hcon := r14SameLines_any A9 Ao c9 co s.O s.O w' (hS.linesRd' (sg h0)).2.2 (hS.linesRd' (sg (hs 9 (by decide)))).2.2 (by rw [HG.out.O.2.1]; have := HG.out.rm; omega) (by rw [HG.out.O.2.1]; have := HG.out.rm; omega) (HG.out.O.1.mill HG.out.cm) (HG.out.O.1.mill HG.out.cm)
       rw [show decide (s.O = s.O) = true by simp] at hcon
       exact ro_call (f := 50) (wanted_yes rfl rfl rfl (svv hk 6)) rfl (by simp only [List.map_toArray, List.map_cons, List.map_nil, Act.eval, e45, e50] <;> rfl) (fun _ _ => by kernel_rfl) (hcon.mono fun e w2 ⟨h1, h2⟩ => ⟨_, h1, sp_same (by kernel_rfl) hl hs (hS.bel h2) rfl, trivial⟩)
      apply sc
      ·intro a w' vs σ hS hl hs hk
       have f51 : a.tmps[51]?.getD undef = .bool true := sf hk 14
       exact rq (.bool false) (wanted_yes rfl rfl rfl (svv hk 6)) (by simp [execOp, Act.eval, f51, go_sem]) hl hs hS
      apply sc
      ·intro a w' vs σ hS hl hs hk
       have f43 : a.tmps[43]?.getD undef = .bool false := sf hk 6
       have f52 : a.tmps[52]?.getD undef = .bool false := sf hk 15
       exact rp (.bool false) (by simp [execOp, Act.eval, f43, f52, go_sem]) hl hs hS
      apply sc
      ·intro a w' vs σ hS hl hs hk
       have f53 : a.tmps[53]?.getD undef = .bool false := sf hk 16
       exact rp (.bool false) (by simp [execOp, Act.eval, f53, go_sem]) hl hs hS
      apply sc
      ·intro a w' vs σ hS hl hs hk
       have f7 : a.tmps[7]?.getD undef = .pointer (some ⟨gm, 0, none⟩) := sof hk
       exact rq (pt gm 0) (wanted_yes rfl rfl rfl (svv hk 17)) (by simp [execOp, Act.eval, f7, go_sem]) hl hs hS
      apply sc
      ·intro a w' vs σ hS hl hs hk
       have e55 : a.tmps.getD 55 undef = .pointer (some ⟨gm, 0, none⟩) := svv hk 18
       have h1 : σ[1]? = some .none := hs 1 (by decide)
       exact ro_call (f := 40) (wanted_yes rfl rfl rfl (svv hk 17)) rfl (by simp only [List.map_toArray, List.map_cons, List.map_nil, Act.eval, e55] <;> rfl) (fun _ _ => by kernel_rfl) ((Lines_any hS (k := 2) (sg (hs 2 (by decide))) HG.out.c0 (HG.out.M.1.mill HG.out.cm) (by rw [HG.out.M.2.1]; have := HG.out.rm; omega)).mono fun e w2 ⟨v9, h3, h2⟩ => ⟨v9, h3, sp_set 1 (.lines v9 s.M) (by kernel_rfl) (by simp) (by decide) hl hs (by rfl) (h2.place (sg h1)) (by obtain ⟨A8, c8, e8, -, -⟩ := h2.linesRd (k := 0) rfl; exact ⟨A8, c8, e8⟩), trivial⟩)
      apply sc
      ·intro a w' vs σ hS hl hs hk
       have f1 : a.tmps[1]?.getD undef = .pointer (some ⟨x, 0, none⟩) := sof hk
       exact rq (pt x 0) (wanted_yes rfl rfl rfl (svv hk 17)) (by simp [execOp, Act.eval, f1, go_sem]) hl hs hS
      apply sc
      ·intro a w' vs σ hS hl hs hk
       have f57 : a.tmps[57]?.getD undef = .pointer (some ⟨x, 0, none⟩) := sf hk 20
       exact rq (pt x 0) (wanted_yes rfl rfl rfl (svv hk 17)) (by simp [execOp, Act.eval, f57, go_sem]) hl hs hS
      apply sc
      ·intro a w' vs σ hS hl hs hk
       have f58 : a.tmps[58]?.getD undef = .pointer (some ⟨x, 0, none⟩) := sf hk 21
       exact rq (pt x 0) (wanted_yes rfl rfl rfl (svv hk 17)) (by simp [execOp, Act.eval, f58, go_sem]) hl hs hS
      apply sc
      ·intro a w' vs σ hS hl hs hk
       have f59 : a.tmps[59]?.getD undef = .pointer (some ⟨x, 0, none⟩) := sf hk 22
       have hx := (hS.box (sg (hs 5 (by decide)))).rpair.1
       exact rq (pt mr 0) (wanted_yes rfl rfl rfl (svv hk 17)) (by simp [execOp, Act.eval, f59, go_sem, hx]) hl hs hS
      apply sc
      ·intro a w' vs σ hS hl hs hk
       have f60 : a.tmps[60]?.getD undef = .pointer (some ⟨mr, 0, none⟩) := sf hk 23
       exact rq (pt mr 0) (wanted_yes rfl rfl rfl (svv hk 17)) (by simp [execOp, Act.eval, f60, go_sem]) hl hs hS
      apply sc
      ·intro a w' vs σ hS hl hs hk
       have f61 : a.tmps[61]?.getD undef = .pointer (some ⟨mr, 0, none⟩) := sf hk 24
       exact rq (pt mr 1) (wanted_yes rfl rfl rfl (svv hk 17)) (by simp [execOp, Act.eval, f61, go_sem]) hl hs hS
      apply sc
      ·intro a w' vs σ hS hl hs hk
       have f62 : a.tmps[62]?.getD undef = .pointer (some ⟨mr, 1, none⟩) := sf hk 25
       have hx := (hS.box (sg (hs 6 (by decide)))).cell
       exact rq (.slice Am s.M.length cm) (wanted_yes rfl rfl rfl (svv hk 17)) (by simp [execOp, Act.eval, f62, go_sem, hx]) hl hs hS
      apply sc
      ·intro a w' vs σ hS hl hs hk
       have e56 : a.tmps.getD 56 undef = vs 19 := sk_val hk 19 (by kernel_rfl) rfl rfl
       have p56 : (fun u : Value => ∃ A c, u = .slice A s.M.length c) (vs 19) := (hk.1 19 (by kernel_rfl)).1
       have e63 : a.tmps.getD 63 undef = .slice Am s.M.length cm := svv hk 26
       obtain ⟨A9, c9, q9⟩ := p56
       rw [q9] at e56
       have h0 : σ[1]? = some (.lines (vs 19) s.M) := hs 1 (by decide)
       rw [q9] at h0
       have hcon := r14SameLines_any A9 Am c9 cm s.M s.M w' (hS.linesRd' (sg h0)).2.2 (hS.linesRd' (sg (hs 8 (by decide)))).2.2 (by rw [HG.out.M.2.1]; have := HG.out.rm; omega) (by rw [HG.out.M.2.1]; have := HG.out.rm; omega) (HG.out.M.1.mill HG.out.cm) (HG.out.M.1.mill HG.out.cm)
       rw [show decide (s.M = s.M) = true by simp] at hcon
       exact ro_call (f := 50) (wanted_yes rfl rfl rfl (svv hk 17)) rfl (by simp only [List.map_toArray, List.map_cons, List.map_nil, Act.eval, e56, e63] <;> rfl) (fun _ _ => by kernel_rfl) (hcon.mono fun e w2 ⟨h1, h2⟩ => ⟨_, h1, sp_same (by kernel_rfl) hl hs (hS.bel h2) rfl, trivial⟩)
      apply sc
      ·intro a w' vs σ hS hl hs hk
       have f64 : a.tmps[64]?.getD undef = .bool true := sf hk 27
       exact rq (.bool false) (wanted_yes rfl rfl rfl (svv hk 17)) (by simp [execOp, Act.eval, f64, go_sem]) hl hs hS
      apply sc
      ·intro a w' vs σ hS hl hs hk
       have f54 : a.tmps[54]?.getD undef = .bool false := sf hk 17
       have f65 : a.tmps[65]?.getD undef = .bool false := sf hk 28
       exact rp (.bool false) (by simp [execOp, Act.eval, f54, f65, go_sem]) hl hs hS
      apply sc
      ·intro a w' vs σ hS hl hs hk
       have f66 : a.tmps[66]?.getD undef = .bool false := sf hk 29
       exact rp (.bool false) (by simp [execOp, Act.eval, f66, go_sem]) hl hs hS
      apply sc
      ·intro a w' vs σ hS hl hs hk
       have f6 : a.tmps[6]?.getD undef = .pointer (some ⟨gu, 0, none⟩) := sof hk
       exact rq (pt gu 0) (wanted_yes rfl rfl rfl (svv hk 30)) (by simp [execOp, Act.eval, f6, go_sem]) hl hs hS
      apply sc
      ·intro a w' vs σ hS hl hs hk
       have e68 : a.tmps.getD 68 undef = .pointer (some ⟨gu, 0, none⟩) := svv hk 31
       exact ro_call (f := 29) (wanted_yes rfl rfl rfl (svv hk 30)) rfl (by simp only [List.map_toArray, List.map_cons, List.map_nil, Act.eval, e68] <;> rfl) (fun _ _ => by kernel_rfl) ((Cols_any hS (sg (hs 3 (by decide)))).mono fun e w2 ⟨h1, h2⟩ => ⟨_, h1, sp_same (by kernel_rfl) hl hs h2 rfl, trivial⟩)
      apply sc
      ·intro a w' vs σ hS hl hs hk
       have f1 : a.tmps[1]?.getD undef = .pointer (some ⟨x, 0, none⟩) := sof hk
       exact rq (pt x 0) (wanted_yes rfl rfl rfl (svv hk 30)) (by simp [execOp, Act.eval, f1, go_sem]) hl hs hS
      apply sc
      ·intro a w' vs σ hS hl hs hk
       have f70 : a.tmps[70]?.getD undef = .pointer (some ⟨x, 0, none⟩) := sf hk 33
       exact rq (pt x 0) (wanted_yes rfl rfl rfl (svv hk 30)) (by simp [execOp, Act.eval, f70, go_sem]) hl hs hS
      apply sc
      ·intro a w' vs σ hS hl hs hk
       have f71 : a.tmps[71]?.getD undef = .pointer (some ⟨x, 0, none⟩) := sf hk 34
       exact rq (pt x 0) (wanted_yes rfl rfl rfl (svv hk 30)) (by simp [execOp, Act.eval, f71, go_sem]) hl hs hS
      apply sc
      ·intro a w' vs σ hS hl hs hk
       have f72 : a.tmps[72]?.getD undef = .pointer (some ⟨x, 0, none⟩) := sf hk 35
       have hx := (hS.box (sg (hs 5 (by decide)))).rpair.1
       exact rq (pt mr 0) (wanted_yes rfl rfl rfl (svv hk 30)) (by simp [execOp, Act.eval, f72, go_sem, hx]) hl hs hS
      apply sc
      ·intro a w' vs σ hS hl hs hk
       have f73 : a.tmps[73]?.getD undef = .pointer (some ⟨mr, 0, none⟩) := sf hk 36
       exact rq (pt mr 0) (wanted_yes rfl rfl rfl (svv hk 30)) (by simp [execOp, Act.eval, f73, go_sem]) hl hs hS
      apply sc
      ·intro a w' vs σ hS hl hs hk
       have f74 : a.tmps[74]?.getD undef = .pointer (some ⟨mr, 0, none⟩) := sf hk 37
       exact rq (pt mr 0) (wanted_yes rfl rfl rfl (svv hk 30)) (by simp [execOp, Act.eval, f74, go_sem]) hl hs hS
      apply sc
      ·intro a w' vs σ hS hl hs hk
       have f75 : a.tmps[75]?.getD undef = .pointer (some ⟨mr, 0, none⟩) := sf hk 38
       have hx := (hS.box (sg (hs 6 (by decide)))).cell
       exact rq (.int .i64 ↑s.cols) (wanted_yes rfl rfl rfl (svv hk 30)) (by simp [execOp, Act.eval, f75, go_sem, hx]) hl hs hS
      apply sc
      ·intro a w' vs σ hS hl hs hk
       have f69 : a.tmps[69]?.getD undef = .int .i64 ↑s.cols := sf hk 32
       have f76 : a.tmps[76]?.getD undef = .int .i64 ↑s.cols := sf hk 39
       exact rq (.bool false) (wanted_yes rfl rfl rfl (svv hk 30)) (by simp [execOp, Act.eval, f69, f76, go_sem]) hl hs hS
      apply sc
      ·intro a w' vs σ hS hl hs hk
       have f67 : a.tmps[67]?.getD undef = .bool false := sf hk 30
       have f77 : a.tmps[77]?.getD undef = .bool false := sf hk 40
       exact rp (.bool false) (by simp [execOp, Act.eval, f67, f77, go_sem]) hl hs hS
      apply sc
      ·intro a w' vs σ hS hl hs hk
       have f78 : a.tmps[78]?.getD undef = .bool false := sf hk 41
       exact rp (.bool false) (by simp [execOp, Act.eval, f78, go_sem]) hl hs hS
      apply sc
      ·intro a w' vs σ hS hl hs hk
       have f7 : a.tmps[7]?.getD undef = .pointer (some ⟨gm, 0, none⟩) := sof hk
       exact rq (pt gm 0) (wanted_yes rfl rfl rfl (svv hk 42)) (by simp [execOp, Act.eval, f7, go_sem]) hl hs hS
      apply sc
      ·intro a w' vs σ hS hl hs hk
       have e80 : a.tmps.getD 80 undef = .pointer (some ⟨gm, 0, none⟩) := svv hk 43
       exact ro_call (f := 29) (wanted_yes rfl rfl rfl (svv hk 42)) rfl (by simp only [List.map_toArray, List.map_cons, List.map_nil, Act.eval, e80] <;> rfl) (fun _ _ => by kernel_rfl) ((Cols_any hS (sg (hs 2 (by decide)))).mono fun e w2 ⟨h1, h2⟩ => ⟨_, h1, sp_same (by kernel_rfl) hl hs h2 rfl, trivial⟩)
      apply sc
      ·intro a w' vs σ hS hl hs hk
       have f1 : a.tmps[1]?.getD undef = .pointer (some ⟨x, 0, none⟩) := sof hk
       exact rq (pt x 0) (wanted_yes rfl rfl rfl (svv hk 42)) (by simp [execOp, Act.eval, f1, go_sem]) hl hs hS
      apply sc
      ·intro a w' vs σ hS hl hs hk
       have f82 : a.tmps[82]?.getD undef = .pointer (some ⟨x, 0, none⟩) := sf hk 45
       exact rq (pt x 0) (wanted_yes rfl rfl rfl (svv hk 42)) (by simp [execOp, Act.eval, f82, go_sem]) hl hs hS
      apply sc
      ·intro a w' vs σ hS hl hs hk
       have f83 : a.tmps[83]?.getD undef = .pointer (some ⟨x, 0, none⟩) := sf hk 46
       exact rq (pt x 0) (wanted_yes rfl rfl rfl (svv hk 42)) (by simp [execOp, Act.eval, f83, go_sem]) hl hs hS
      apply sc
      ·intro a w' vs σ hS hl hs hk
       have f84 : a.tmps[84]?.getD undef = .pointer (some ⟨x, 0, none⟩) := sf hk 47
       have hx := (hS.box (sg (hs 5 (by decide)))).rpair.1
       exact rq (pt mr 0) (wanted_yes rfl rfl rfl (svv hk 42)) (by simp [execOp, Act.eval, f84, go_sem, hx]) hl hs hS
      apply sc
      ·intro a w' vs σ hS hl hs hk
       have f85 : a.tmps[85]?.getD undef = .pointer (some ⟨mr, 0, none⟩) := sf hk 48
       exact rq (pt mr 0) (wanted_yes rfl rfl rfl (svv hk 42)) (by simp [execOp, Act.eval, f85, go_sem]) hl hs hS
      apply sc
      ·intro a w' vs σ hS hl hs hk
       have f86 : a.tmps[86]?.getD undef = .pointer (some ⟨mr, 0, none⟩) := sf hk 49
       exact rq (pt mr 0) (wanted_yes rfl rfl rfl (svv hk 42)) (by simp [execOp, Act.eval, f86, go_sem]) hl hs hS
      apply sc
      ·intro a w' vs σ hS hl hs hk
       have f87 : a.tmps[87]?.getD undef = .pointer (some ⟨mr, 0, none⟩) := sf hk 50
       have hx := (hS.box (sg (hs 6 (by decide)))).cell
       exact rq (.int .i64 ↑s.cols) (wanted_yes rfl rfl rfl (svv hk 42)) (by simp [execOp, Act.eval, f87, go_sem, hx]) hl hs hS
      apply sc
      ·intro a w' vs σ hS hl hs hk
       have f81 : a.tmps[81]?.getD undef = .int .i64 ↑s.cols := sf hk 44
       have f88 : a.tmps[88]?.getD undef = .int .i64 ↑s.cols := sf hk 51
       exact rq (.bool false) (wanted_yes rfl rfl rfl (svv hk 42)) (by simp [execOp, Act.eval, f81, f88, go_sem]) hl hs hS
      apply sc
      ·intro a w' vs σ hS hl hs hk
       have f79 : a.tmps[79]?.getD undef = .bool false := sf hk 42
       have f89 : a.tmps[89]?.getD undef = .bool false := sf hk 52
       exact rp (.bool false) (by simp [execOp, Act.eval, f79, f89, go_sem]) hl hs hS
      exact SSteps.nil
     ·intro vs w' hS hv
      have q0 : vs 0 = _ := hv 0 (by decide)
      have q1 : vs 1 = _ := hv 1 (by decide)
      have q2 : vs 2 = _ := hv 2 (by decide)
      have q3 : vs 3 = _ := hv 3 (by decide)
      have q4 : vs 4 = _ := hv 4 (by decide)
      have q5 : vs 5 = _ := hv 5 (by decide)
      have q6 : vs 6 = _ := hv 6 (by decide)
      have q7 : vs 7 = _ := hv 7 (by decide)
      have q9 : vs 9 = _ := hv 9 (by decide)
      have q10 : vs 10 = _ := hv 10 (by decide)
      have q11 : vs 11 = _ := hv 11 (by decide)
      have q12 : vs 12 = _ := hv 12 (by decide)
      have q13 : vs 13 = _ := hv 13 (by decide)
      have q14 : vs 14 = _ := hv 14 (by decide)
      have q15 : vs 15 = _ := hv 15 (by decide)
      have q16 : vs 16 = _ := hv 16 (by decide)
      have q17 : vs 17 = _ := hv 17 (by decide)
      have q18 : vs 18 = _ := hv 18 (by decide)
      have q20 : vs 20 = _ := hv 20 (by decide)
      have q21 : vs 21 = _ := hv 21 (by decide)
      have q22 : vs 22 = _ := hv 22 (by decide)
      have q23 : vs 23 = _ := hv 23 (by decide)
      have q24 : vs 24 = _ := hv 24 (by decide)
      have q25 : vs 25 = _ := hv 25 (by decide)
      have q26 : vs 26 = _ := hv 26 (by decide)
      have q27 : vs 27 = _ := hv 27 (by decide)
      have q28 : vs 28 = _ := hv 28 (by decide)
      have q29 : vs 29 = _ := hv 29 (by decide)
      have q30 : vs 30 = _ := hv 30 (by decide)
      have q31 : vs 31 = _ := hv 31 (by decide)
      have q32 : vs 32 = _ := hv 32 (by decide)
      have q33 : vs 33 = _ := hv 33 (by decide)
      have q34 : vs 34 = _ := hv 34 (by decide)
      have q35 : vs 35 = _ := hv 35 (by decide)
      have q36 : vs 36 = _ := hv 36 (by decide)
      have q37 : vs 37 = _ := hv 37 (by decide)
      have q38 : vs 38 = _ := hv 38 (by decide)
      have q39 : vs 39 = _ := hv 39 (by decide)
      have q40 : vs 40 = _ := hv 40 (by decide)
      have q41 : vs 41 = _ := hv 41 (by decide)
      have q42 : vs 42 = _ := hv 42 (by decide)
      have q43 : vs 43 = _ := hv 43 (by decide)
      have q44 : vs 44 = _ := hv 44 (by decide)
      have q45 : vs 45 = _ := hv 45 (by decide)
      have q46 : vs 46 = _ := hv 46 (by decide)
      have q47 : vs 47 = _ := hv 47 (by decide)
      have q48 : vs 48 = _ := hv 48 (by decide)
      have q49 : vs 49 = _ := hv 49 (by decide)
      have q50 : vs 50 = _ := hv 50 (by decide)
      have q51 : vs 51 = _ := hv 51 (by decide)
      have q52 : vs 52 = _ := hv 52 (by decide)
      have q53 : vs 53 = _ := hv 53 (by decide)
      have S2 := Lib.hid hS
      simp only [putL, Act.put, Nat.zero_add, Nat.reduceAdd, List.setIfInBounds_toArray, List.set_cons_succ, List.set_cons_zero, q0, q1, q2, q3, q4, q5, q6, q7, q9, q10, q11, q12, q13, q14, q15, q16, q17, q18, q20, q21, q22, q23, q24, q25, q26, q27, q28, q29, q30, q31, q32, q33, q34, q35, q36, q37, q38, q39, q40, q41, q42, q43, q44, q45, q46, q47, q48, q49, q50, q51, q52, q53]
      clear hS hv q0 q1 q2 q3 q4 q5 q6 q7 q9 q10 q11 q12 q13 q14 q15 q16 q17 q18 q20 q21 q22 q23 q24 q25 q26 q27 q28 q29 q30 q31 q32 q33 q34 q35 q36 q37 q38 q39 q40 q41 q42 q43 q44 q45 q46 q47 q48 q49 q50 q51 q52 q53
      have S4 := S2
      clear S2 S3
      go_wp2_with fail
      refine (put24_any (row := 0) (col := 0) _ HT.out (show Objs w0 _ (.grid gu 83 ↑s.cols _ :: _) from (Objs.pick (σ := [_, _, _, _, _, _, _, _, _, _]) (os := os) S4.out [some 3, some 2, some 4, some 5, some 6, some 7, some 8, some 9] (by decide) rfl)) HG.out.c0 HG.out.cm HU.out.1).mono ?_
      rintro e w5 ⟨rfl, hS⟩
      have S5 := Lib.hid hS
      clear hS S4
      go_wp2_with fail
      refine (put24_any (row := 0) (col := 0) _ HT.out (show Objs w0 _ (.grid gm 83 ↑s.cols _ :: _) from S5.out.tail) HG.out.c0 HG.out.cm HG.out.M.1).mono ?_
      rintro e w6 ⟨rfl, hS⟩
      have S6 := Lib.hid hS
      clear hS S5
      go_wp2_with fail
      go_roundw
      case rel => exact ⟨n + 1, by omega, by go_num, alike_close S6.out.tail⟩
      case measure => simp [intOf]; omega
   ·go_wp2_with fail
    go_ret
    refine ⟨rfl, ?_⟩
    have hW := S1.out
    exact Objs.swap (Objs.closeRef (m := mr) (o := ro) (Objs.pick (σ := [_, _, _, _]) (os := os) hW [some 1, some 2, some 3, some 0] (by decide) rfl))
end
end Go.Proofs.YtdndoikgnohkkaaDoor

namespace Go.Proofs.YtdndoikgnohkkaaDoor
open Go.RowKit

theorem entN_good {s : Pr} {rr : Nat} {n : Int} {x : Saved} {q : Pen} (h : s.good rr) (hq : n = 1049 → q.ok = true) : (entN n x q s).good rr := by
 unfold entN
 split
 ·rename_i hn; exact ⟨h.c0, h.cm, h.r0, h.rm, h.M, h.O.wipe (hq hn)⟩
 ·exact ⟨h.c0, h.cm, h.r0, h.rm, h.M, h.O⟩
theorem lvN_good {s : Pr} {rr : Nat} {n : Int} {q : Pen} (h : s.good rr) (hq : n = 1047 → q.ok = true) : (lvN n q s).good rr := by
 unfold lvN
 split
 ·rename_i hn; exact ⟨h.c0, h.cm, h.r0, h.rm, h.M, h.O.wipe (hq hn)⟩
 split
 ·exact ⟨h.c0, h.cm, h.r0, h.rm, h.M, h.O⟩
 ·exact ⟨h.c0, h.cm, h.r0, h.rm, h.M, h.O⟩
def cell24 (L : List Ln) (i j : Nat) : Option Cell := (L[i]?).bind fun l => l.1[j]?
theorem shows_at {w0 w : World} {os : List Ob} {i j cols k g : Nat} {L : List Ln} {x : Cell} (hS : Objs w0 w os) (hk : os[k]? = some (.grid g 83 cols L)) (hc : 0 < cols) (hj : j < cols) (hx : cell24 L i j = some x) :
  Calls Tryd.prog 42 #[.pointer (some ⟨g, 0, none⟩), .int .i64 i, .int .i64 j, .agg (cv x)] w fun e w' => e = .returned (.bool true) ∧ Objs w0 w' os := by
 unfold cell24 at hx
 cases hl : L[i]? with
 | none => rw [hl] at hx; cases hx
 | some l => rw [hl] at hx; exact shows_true hS hk hc hj hl hx
def cA24 : Cell := ⟨97, 0, 0, 0, 1, pen0⟩
def cE24 : Cell := ⟨0, 0, 0, 0, 1, pen0⟩
def sK24 : Saved := ⟨1, 2, false, pen0, false, 0, 0, 0⟩
def k24_0 : Pr := newP 2 3
def k24_1 : Pr := k24_0.setU (putR24 0 0 cA24 k24_0.cols k24_0.U)
def k24_2 : Pr := entN 1049 sK24 pen0 k24_1
def k24_3 : Pr := k24_2.setU (putR24 1 1 cA24 k24_2.cols k24_2.U)
def k24_4 : Pr := lvN 1049 pen0 k24_3
def k24_5 : Pr := entN 47 sK24 pen0 k24_4
def k24_6 : Pr := lvN 1047 pen0 k24_5
def k24_7 : Pr := entN 47 sK24 pen0 k24_6
theorem pen0_ok : pen0.ok = true := by decide +kernel
theorem k24_0_good : k24_0.good 2 := newP_good (by decide) (by decide) (by decide) (by decide)
theorem k24_1_good : k24_1.good 2 := k24_0_good.setU (putR24_k24 k24_0_good.U)
theorem k24_2_good : k24_2.good 2 := entN_good k24_1_good (fun _ => pen0_ok)
theorem k24_3_good : k24_3.good 2 := k24_2_good.setU (putR24_k24 k24_2_good.U)
theorem k24_4_good : k24_4.good 2 := lvN_good k24_3_good (fun _ => pen0_ok)
theorem k24_5_good : k24_5.good 2 := entN_good k24_4_good (fun _ => pen0_ok)
theorem k24_6_good : k24_6.good 2 := lvN_good k24_5_good (fun _ => pen0_ok)
theorem k24_7_good : k24_7.good 2 := entN_good k24_6_good (fun _ => pen0_ok)
section
variable {w0 w : World} {os : List Ob} {p : Nat}
theorem k24_e1 (hT : Tabs w0) (h : Objs w0 w (pairO p k24_0 :: os)) : Calls Tryd.prog 22 #[.pointer (some ⟨p, 0, none⟩), .agg (pw 0 0 cA24)] w fun e w' => e = .returned (.int .i64 0) ∧ Objs w0 w' (pairO p k24_1 :: os) := by
 have := puts_front (row := 0) (col := 0) cA24 hT h k24_0_good
 rw [show putE 0 0 cA24 k24_0.cols 2 = 0 by decide +kernel] at this
 exact this
theorem k24_e3 (hT : Tabs w0) (h : Objs w0 w (pairO p k24_2 :: os)) : Calls Tryd.prog 22 #[.pointer (some ⟨p, 0, none⟩), .agg (pw 1 1 cA24)] w fun e w' => e = .returned (.int .i64 0) ∧ Objs w0 w' (pairO p k24_3 :: os) := by
 have := puts_front (row := 1) (col := 1) cA24 hT h k24_2_good
 rw [show putE 1 1 cA24 k24_2.cols 2 = 0 by decide +kernel] at this
 exact this
theorem k24_e2 (hT : Tabs w0) (h : Objs w0 w (pairO p k24_1 :: os)) : Calls Tryd.prog 9 #[.pointer (some ⟨p, 0, none⟩), .int .i64 1049, .agg (sv sK24), .agg (pv pen0)] w fun e w' => e = .returned (.int .i64 0) ∧ Objs w0 w' (pairO p k24_2 :: os) := Enter_yes 1049 sK24 pen0 hT h k24_1_good (by decide +kernel)
theorem k24_e5 (hT : Tabs w0) (h : Objs w0 w (pairO p k24_4 :: os)) : Calls Tryd.prog 9 #[.pointer (some ⟨p, 0, none⟩), .int .i64 47, .agg (sv sK24), .agg (pv pen0)] w fun e w' => e = .returned (.int .i64 0) ∧ Objs w0 w' (pairO p k24_5 :: os) := Enter_yes 47 sK24 pen0 hT h k24_4_good (by decide +kernel)
theorem k24_e7 (hT : Tabs w0) (h : Objs w0 w (pairO p k24_6 :: os)) : Calls Tryd.prog 9 #[.pointer (some ⟨p, 0, none⟩), .int .i64 47, .agg (sv sK24), .agg (pv pen0)] w fun e w' => e = .returned (.int .i64 0) ∧ Objs w0 w' (pairO p k24_7 :: os) := Enter_yes 47 sK24 pen0 hT h k24_6_good (by decide +kernel)
theorem k24_busy (hT : Tabs w0) (h : Objs w0 w (pairO p k24_3 :: os)) : Calls Tryd.prog 9 #[.pointer (some ⟨p, 0, none⟩), .int .i64 47, .agg (sv sK24), .agg (pv pen0)] w fun e w' => e = .returned (.int .i64 11) ∧ Objs w0 w' (pairO p k24_3 :: os) := by
 have he : entE 47 sK24 pen0 k24_3 = 11 := by decide +kernel
 have := Enter_no 47 sK24 pen0 hT h (by rw [he]; decide)
 rw [he] at this
 exact this
theorem k24_e8 (hT : Tabs w0) (h : Objs w0 w (pairO p k24_7 :: os)) : Calls Tryd.prog 9 #[.pointer (some ⟨p, 0, none⟩), .int .i64 1048, .agg (sv sK24), .agg (pv pen0)] w fun e w' => e = .returned (.int .i64 2) ∧ Objs w0 w' (pairO p k24_7 :: os) := by
 have he : entE 1048 sK24 pen0 k24_7 = 2 := by decide +kernel
 have := Enter_no 1048 sK24 pen0 hT h (by rw [he]; decide)
 rw [he] at this
 exact this
theorem k24_e4 (hT : Tabs w0) (h : Objs w0 w (pairO p k24_3 :: os)) : Calls Tryd.prog 10 #[.pointer (some ⟨p, 0, none⟩), .int .i64 1049, .agg (pv pen0), .agg (sv sK24), .bool true, .int .i64 0] w fun e w' => e = .returned (.bool true) ∧ Objs w0 w' (pairO p k24_4 :: os) :=
 leaves_true h (fun bs W h => front_bs h (fun os1 h => by
  have := Leave_yes 1049 pen0 hT h k24_3_good (by decide +kernel)
  rw [show lvS 1049 k24_3 = some sK24 by decide +kernel] at this
  exact this))
theorem k24_e6 (hT : Tabs w0) (h : Objs w0 w (pairO p k24_5 :: os)) : Calls Tryd.prog 10 #[.pointer (some ⟨p, 0, none⟩), .int .i64 1047, .agg (pv pen0), .agg (sv saved0), .bool false, .int .i64 0] w fun e w' => e = .returned (.bool true) ∧ Objs w0 w' (pairO p k24_6 :: os) :=
 leaves_true h (fun bs W h => front_bs h (fun os1 h => by
  have := Leave_yes 1047 pen0 hT h k24_5_good (by decide +kernel)
  rw [show lvS 1047 k24_5 = none by decide +kernel] at this
  exact this))
theorem k24_e4b (hT : Tabs w0) (h : Objs w0 w (pairO p k24_4 :: os)) : Calls Tryd.prog 10 #[.pointer (some ⟨p, 0, none⟩), .int .i64 47, .agg (pv pen0), .agg (sv saved0), .bool false, .int .i64 8] w fun e w' => e = .returned (.bool true) ∧ Objs w0 w' (pairO p k24_4 :: os) :=
 leaves_true h (fun bs W h => front_bs h (fun os1 h => by
  have he : lvE 47 pen0 k24_4 = 8 := by decide +kernel
  have := Leave_no 47 pen0 hT h (by rw [he]; decide)
  rw [he] at this
  exact this))
end
set_option maxRecDepth 100000 in
set_option maxHeartbeats 16000000 in
theorem l24known_any (w : World) (hT : Tabs w) : Calls Tryd.prog 20 #[] w fun e w' => e = .returned (.bool true) ∧ Below w.heap.size w w' := by
 have HT := Lib.hid hT
 clear hT
 go_enter Tryd.func20, Tryd.ntmps20
 go_wp2_with fail
 refine (pairNew_yes (w0 := w) (os := []) 2 3 (by decide) (by decide) (by decide) (by decide) (objs_start w)).mono ?_
 rintro e w1 ⟨p, rfl, hS⟩
 have S0 := Lib.hid (show Objs w w1 [pairO p k24_0] from hS)
 clear hS
 go_upto_region 3 with (fail)
 refine at_objsC (S0.out.alloc2 (c1 := cv cA24) (t1 := 61) (c2 := cv cE24) (t2 := 61)) (fun W hW => ?_)
 generalize w1.heap.size + 1 = b4 at hW ⊢
 generalize w1.heap.size = b3 at hW ⊢
 have S9 := Lib.hid hW
 clear hW S0
 go_upto_region 4 with (fail)
 refine at_objsC (S9.out.alloc1 (c1 := sv sK24) (t1 := 35)) (fun W2 hW => ?_)
 generalize W.heap.size = b5 at hW ⊢
 have S1 := Lib.hid (show Objs w W2 [pairO p k24_0, .box b5 35 (sv sK24), .box b4 61 (cv cE24), .box b3 61 (cv cA24)] from (Objs.pick (σ := [_, _, _, _]) (os := []) hW [some 3, some 0, some 1, some 2] (by decide) rfl))
 clear hW S9
 refine wp_region_stage (w0 := w) (os := []) (by kernel_rfl) (by kernel_rfl) (by kernel_rfl) [(2, 10, [], fun vs => pairO p k24_1), (2, 17, [], fun vs => pairO p k24_2), (0, 32, [32], fun vs => .grid (blkOf (vs 32)) 83 3 k24_2.U), (1, 39, [39], fun vs => .grid (blkOf (vs 39)) 83 3 k24_2.M)] [[], [], [], [], [], [], [], [], [5], [], [2], [], [], [], [], [3], [], [2], [], [], [], [], [2], [], [], [], [], [2], [], [], [], [], [0, 2], [4], [0], [], [], [], [], [1, 2], [5], [1], [], []] [.none, .none, pairO p k24_0, .box b5 35 (sv sK24), .box b4 61 (cv cE24), .box b3 61 (cv cA24)] (fun opn u => match opn with | 0 => u = .pointer (some ⟨p, 0, none⟩) | 1 => u = .bool false | 2 => u = .bool false | 3 => u = .int .i64 0 | 4 => u = .bool false | 5 => u = .bool false | 6 => u = .bool false | 7 => u = .pointer (some ⟨p, 0, none⟩) | 8 => u = .agg (cv cA24) | 9 => u = .agg (pw 0 0 cA24) | 10 => u = .int .i64 0 | 11 => u = .bool false | 12 => u = .bool false | 13 => u = .bool false | 14 => u = .pointer (some ⟨p, 0, none⟩) | 15 => u = .agg (sv sK24) | 16 => u = .agg (pv pen0) | 17 => u = .int .i64 0 | 18 => u = .bool false | 19 => u = .bool false | 20 => u = .bool false | 21 => u = .pointer (some ⟨p, 0, none⟩) | 22 => u = .bool true | 23 => u = .bool false | 24 => u = .bool false | 25 => u = .bool false | 26 => u = .pointer (some ⟨p, 0, none⟩) | 27 => u = .int .i64 1049 | 28 => u = .bool false | 29 => u = .bool false | 30 => u = .bool false | 31 => u = .pointer (some ⟨p, 0, none⟩) | 32 => ∃ x, u = .pointer (some ⟨x, 0, none⟩) | 33 => u = .agg (cv cE24) | 34 => u = .bool true | 35 => u = .bool false | 36 => u = .bool false | 37 => u = .bool false | 38 => u = .pointer (some ⟨p, 0, none⟩) | 39 => ∃ x, u = .pointer (some ⟨x, 0, none⟩) | 40 => u = .agg (cv cA24) | 41 => u = .bool true | 42 => u = .bool false | 43 => u = .bool false | _ => True) (fun vs => [.grid (blkOf (vs 32)) 83 3 k24_2.U, .grid (blkOf (vs 39)) 83 3 k24_2.M, pairO p k24_2, .box b5 35 (sv sK24), .box b4 61 (cv cE24), .box b3 61 (cv cA24)]) (by kernel_rfl) (fun vs => by rfl) S1.out.pad.pad ?_ ?_
 ·apply sc
  ·intro a w' vs σ hS hl hs hk
   have f1 : a.tmps[1]?.getD undef = .pointer (some ⟨p, 0, none⟩) := sof hk
   exact rp (pt p 0) (by simp [execOp, Act.eval, f1, go_sem]) hl hs hS
  apply sc
  ·intro a w' vs σ hS hl hs hk
   have f15 : a.tmps[15]?.getD undef = .pointer (some ⟨p, 0, none⟩) := sf hk 0
   exact rp (.bool false) (by simp [execOp, Act.eval, f15, go_sem]) hl hs hS
  apply sc
  ·intro a w' vs σ hS hl hs hk
   have f16 : a.tmps[16]?.getD undef = .bool false := sf hk 1
   exact rp (.bool false) (by simp [execOp, Act.eval, f16, go_sem]) hl hs hS
  apply sc
  ·intro a w' vs σ hS hl hs hk
   have f2 : a.tmps[2]?.getD undef = .int .i64 0 := sof hk
   exact rq (.int .i64 0) (wanted_yes rfl rfl rfl (svv hk 2)) (by simp [execOp, Act.eval, f2, go_sem]) hl hs hS
  apply sc
  ·intro a w' vs σ hS hl hs hk
   have f18 : a.tmps[18]?.getD undef = .int .i64 0 := sf hk 3
   exact rq (.bool false) (wanted_yes rfl rfl rfl (svv hk 2)) (by simp [execOp, Act.eval, f18, go_sem]) hl hs hS
  apply sc
  ·intro a w' vs σ hS hl hs hk
   have f17 : a.tmps[17]?.getD undef = .bool false := sf hk 2
   have f19 : a.tmps[19]?.getD undef = .bool false := sf hk 4
   exact rp (.bool false) (by simp [execOp, Act.eval, f17, f19, go_sem]) hl hs hS
  apply sc
  ·intro a w' vs σ hS hl hs hk
   have f20 : a.tmps[20]?.getD undef = .bool false := sf hk 5
   exact rp (.bool false) (by simp [execOp, Act.eval, f20, go_sem]) hl hs hS
  apply sc
  ·intro a w' vs σ hS hl hs hk
   have f1 : a.tmps[1]?.getD undef = .pointer (some ⟨p, 0, none⟩) := sof hk
   exact rq (pt p 0) (wanted_yes rfl rfl rfl (svv hk 6)) (by simp [execOp, Act.eval, f1, go_sem]) hl hs hS
  apply sc
  ·intro a w' vs σ hS hl hs hk
   have f3 : a.tmps[3]?.getD undef = .pointer (some ⟨b3, 0, none⟩) := sof hk
   have hx := (hS.box (sg (hs 5 (by decide)))).cellAt
   exact rq (.agg (cv cA24)) (wanted_yes rfl rfl rfl (svv hk 6)) (by simp [execOp, Act.eval, f3, go_sem, hx]) hl hs hS
  apply sc
  ·intro a w' vs σ hS hl hs hk
   have f23 : a.tmps[23]?.getD undef = .agg (cv cA24) := sf hk 8
   exact rq (.agg (pw 0 0 cA24)) (wanted_yes rfl rfl rfl (svv hk 6)) (by simp [execOp, Act.eval, f23, go_sem]) hl hs hS
  apply sc
  ·intro a w' vs σ hS hl hs hk
   have e22 : a.tmps.getD 22 undef = .pointer (some ⟨p, 0, none⟩) := svv hk 7
   have e24 : a.tmps.getD 24 undef = .agg (pw 0 0 cA24) := svv hk 9
   exact ro_call (f := 22) (wanted_yes rfl rfl rfl (svv hk 6)) rfl (by simp only [List.map_toArray, List.map_cons, List.map_nil, Act.eval, e22, e24] <;> rfl) (fun _ _ => by kernel_rfl) ((front_call hS (sg (hs 2 (by decide))) (fun os1 h => k24_e1 HT.out h)).mono fun e w2 ⟨h1, h2⟩ => ⟨_, h1, sp_set 2 (pairO p k24_1) (by kernel_rfl) (by simp) (by decide) hl hs (by rfl) h2 rfl, trivial⟩)
  apply sc
  ·intro a w' vs σ hS hl hs hk
   have f25 : a.tmps[25]?.getD undef = .int .i64 0 := sf hk 10
   exact rq (.bool false) (wanted_yes rfl rfl rfl (svv hk 6)) (by simp [execOp, Act.eval, f25, go_sem]) hl hs hS
  apply sc
  ·intro a w' vs σ hS hl hs hk
   have f21 : a.tmps[21]?.getD undef = .bool false := sf hk 6
   have f26 : a.tmps[26]?.getD undef = .bool false := sf hk 11
   exact rp (.bool false) (by simp [execOp, Act.eval, f21, f26, go_sem]) hl hs hS
  apply sc
  ·intro a w' vs σ hS hl hs hk
   have f27 : a.tmps[27]?.getD undef = .bool false := sf hk 12
   exact rp (.bool false) (by simp [execOp, Act.eval, f27, go_sem]) hl hs hS
  apply sc
  ·intro a w' vs σ hS hl hs hk
   have f1 : a.tmps[1]?.getD undef = .pointer (some ⟨p, 0, none⟩) := sof hk
   exact rq (pt p 0) (wanted_yes rfl rfl rfl (svv hk 13)) (by simp [execOp, Act.eval, f1, go_sem]) hl hs hS
  apply sc
  ·intro a w' vs σ hS hl hs hk
   have f5 : a.tmps[5]?.getD undef = .pointer (some ⟨b5, 0, none⟩) := sof hk
   have hx := (hS.box (sg (hs 3 (by decide)))).saved.2.2.2.1
   exact rq (.agg (sv sK24)) (wanted_yes rfl rfl rfl (svv hk 13)) (by simp [execOp, Act.eval, f5, go_sem, hx]) hl hs hS
  apply sc
  ·intro a w' vs σ hS hl hs hk
   exact rq (.agg (pv pen0)) (wanted_yes rfl rfl rfl (svv hk 13)) (by simp [execOp, Act.eval, go_sem]) hl hs hS
  apply sc
  ·intro a w' vs σ hS hl hs hk
   have e29 : a.tmps.getD 29 undef = .pointer (some ⟨p, 0, none⟩) := svv hk 14
   have e30 : a.tmps.getD 30 undef = .agg (sv sK24) := svv hk 15
   have e31 : a.tmps.getD 31 undef = .agg (pv pen0) := svv hk 16
   exact ro_call (f := 9) (wanted_yes rfl rfl rfl (svv hk 13)) rfl (by simp only [List.map_toArray, List.map_cons, List.map_nil, Act.eval, e29, e30, e31] <;> rfl) (fun _ _ => by kernel_rfl) ((front_call hS (sg (hs 2 (by decide))) (fun os1 h => k24_e2 HT.out h)).mono fun e w2 ⟨h1, h2⟩ => ⟨_, h1, sp_set 2 (pairO p k24_2) (by kernel_rfl) (by simp) (by decide) hl hs (by rfl) h2 rfl, trivial⟩)
  apply sc
  ·intro a w' vs σ hS hl hs hk
   have f32 : a.tmps[32]?.getD undef = .int .i64 0 := sf hk 17
   exact rq (.bool false) (wanted_yes rfl rfl rfl (svv hk 13)) (by simp [execOp, Act.eval, f32, go_sem]) hl hs hS
  apply sc
  ·intro a w' vs σ hS hl hs hk
   have f28 : a.tmps[28]?.getD undef = .bool false := sf hk 13
   have f33 : a.tmps[33]?.getD undef = .bool false := sf hk 18
   exact rp (.bool false) (by simp [execOp, Act.eval, f28, f33, go_sem]) hl hs hS
  apply sc
  ·intro a w' vs σ hS hl hs hk
   have f34 : a.tmps[34]?.getD undef = .bool false := sf hk 19
   exact rp (.bool false) (by simp [execOp, Act.eval, f34, go_sem]) hl hs hS
  apply sc
  ·intro a w' vs σ hS hl hs hk
   have f1 : a.tmps[1]?.getD undef = .pointer (some ⟨p, 0, none⟩) := sof hk
   exact rq (pt p 0) (wanted_yes rfl rfl rfl (svv hk 20)) (by simp [execOp, Act.eval, f1, go_sem]) hl hs hS
  apply sc
  ·intro a w' vs σ hS hl hs hk
   have e36 : a.tmps.getD 36 undef = .pointer (some ⟨p, 0, none⟩) := svv hk 21
   have hcon := Alternate_any hS (sg (hs 2 (by decide)))
   rw [show decide (¬ k24_2.mode = 0) = true by decide +kernel] at hcon
   exact ro_call (f := 11) (wanted_yes rfl rfl rfl (svv hk 20)) rfl (by simp only [List.map_toArray, List.map_cons, List.map_nil, Act.eval, e36] <;> rfl) (fun _ _ => by kernel_rfl) ((hcon).mono fun e w2 ⟨h1, h2⟩ => ⟨_, h1, sp_same (by kernel_rfl) hl hs h2 rfl, trivial⟩)
  apply sc
  ·intro a w' vs σ hS hl hs hk
   have f37 : a.tmps[37]?.getD undef = .bool true := sf hk 22
   exact rq (.bool false) (wanted_yes rfl rfl rfl (svv hk 20)) (by simp [execOp, Act.eval, f37, go_sem]) hl hs hS
  apply sc
  ·intro a w' vs σ hS hl hs hk
   have f35 : a.tmps[35]?.getD undef = .bool false := sf hk 20
   have f38 : a.tmps[38]?.getD undef = .bool false := sf hk 23
   exact rp (.bool false) (by simp [execOp, Act.eval, f35, f38, go_sem]) hl hs hS
  apply sc
  ·intro a w' vs σ hS hl hs hk
   have f39 : a.tmps[39]?.getD undef = .bool false := sf hk 24
   exact rp (.bool false) (by simp [execOp, Act.eval, f39, go_sem]) hl hs hS
  apply sc
  ·intro a w' vs σ hS hl hs hk
   have f1 : a.tmps[1]?.getD undef = .pointer (some ⟨p, 0, none⟩) := sof hk
   exact rq (pt p 0) (wanted_yes rfl rfl rfl (svv hk 25)) (by simp [execOp, Act.eval, f1, go_sem]) hl hs hS
  apply sc
  ·intro a w' vs σ hS hl hs hk
   have e41 : a.tmps.getD 41 undef = .pointer (some ⟨p, 0, none⟩) := svv hk 26
   have hcon := Mode_any hS (sg (hs 2 (by decide)))
   rw [show k24_2.mode = 1049 by decide +kernel] at hcon
   exact ro_call (f := 12) (wanted_yes rfl rfl rfl (svv hk 25)) rfl (by simp only [List.map_toArray, List.map_cons, List.map_nil, Act.eval, e41] <;> rfl) (fun _ _ => by kernel_rfl) ((hcon).mono fun e w2 ⟨h1, h2⟩ => ⟨_, h1, sp_same (by kernel_rfl) hl hs h2 rfl, trivial⟩)
  apply sc
  ·intro a w' vs σ hS hl hs hk
   have f42 : a.tmps[42]?.getD undef = .int .i64 1049 := sf hk 27
   exact rq (.bool false) (wanted_yes rfl rfl rfl (svv hk 25)) (by simp [execOp, Act.eval, f42, go_sem]) hl hs hS
  apply sc
  ·intro a w' vs σ hS hl hs hk
   have f40 : a.tmps[40]?.getD undef = .bool false := sf hk 25
   have f43 : a.tmps[43]?.getD undef = .bool false := sf hk 28
   exact rp (.bool false) (by simp [execOp, Act.eval, f40, f43, go_sem]) hl hs hS
  apply sc
  ·intro a w' vs σ hS hl hs hk
   have f44 : a.tmps[44]?.getD undef = .bool false := sf hk 29
   exact rp (.bool false) (by simp [execOp, Act.eval, f44, go_sem]) hl hs hS
  apply sc
  ·intro a w' vs σ hS hl hs hk
   have f1 : a.tmps[1]?.getD undef = .pointer (some ⟨p, 0, none⟩) := sof hk
   exact rq (pt p 0) (wanted_yes rfl rfl rfl (svv hk 30)) (by simp [execOp, Act.eval, f1, go_sem]) hl hs hS
  apply sc
  ·intro a w' vs σ hS hl hs hk
   have e46 : a.tmps.getD 46 undef = .pointer (some ⟨p, 0, none⟩) := svv hk 31
   have h0 : σ[0]? = some .none := hs 0 (by decide)
   exact ro_call (f := 13) (wanted_yes rfl rfl rfl (svv hk 30)) rfl (by simp only [List.map_toArray, List.map_cons, List.map_nil, Act.eval, e46] <;> rfl) (fun _ _ => by kernel_rfl) ((Grid_at hS (sg (hs 2 (by decide))) k24_2_good).mono fun e w2 ⟨x, h1, h2⟩ => ⟨_, h1, sp_set 0 (.grid x 83 3 k24_2.U) (by kernel_rfl) (by simp) (by decide) hl hs (by rfl) (h2.place (sg h0)) ⟨x, rfl⟩, trivial⟩)
  apply sc
  ·intro a w' vs σ hS hl hs hk
   have f4 : a.tmps[4]?.getD undef = .pointer (some ⟨b4, 0, none⟩) := sof hk
   have hx := (hS.box (sg (hs 4 (by decide)))).cellAt
   exact rq (.agg (cv cE24)) (wanted_yes rfl rfl rfl (svv hk 30)) (by simp [execOp, Act.eval, f4, go_sem, hx]) hl hs hS
  apply sc
  ·intro a w' vs σ hS hl hs hk
   have e47 : a.tmps.getD 47 undef = vs 32 := sk_val hk 32 (by kernel_rfl) rfl rfl
   have p47 : (fun u : Value => ∃ x, u = .pointer (some ⟨x, 0, none⟩)) (vs 32) := (hk.1 32 (by kernel_rfl)).1
   have e48 : a.tmps.getD 48 undef = .agg (cv cE24) := svv hk 33
   obtain ⟨g9, q9⟩ := p47
   rw [q9] at e47
   have h0 : σ[0]? = some (.grid (blkOf (vs 32)) 83 3 k24_2.U) := hs 0 (by decide)
   rw [q9, show blkOf (.pointer (some ⟨g9, 0, none⟩)) = g9 from rfl] at h0
   exact ro_call (f := 42) (wanted_yes rfl rfl rfl (svv hk 30)) rfl (by simp only [List.map_toArray, List.map_cons, List.map_nil, Act.eval, e47, e48] <;> rfl) (fun _ _ => by kernel_rfl) ((shows_at (i := 0) (j := 0) (x := cE24) hS (sg h0) (by decide) (by decide) (by decide +kernel)).mono fun e w2 ⟨h1, h2⟩ => ⟨_, h1, sp_same (by kernel_rfl) hl hs h2 rfl, trivial⟩)
  apply sc
  ·intro a w' vs σ hS hl hs hk
   have f49 : a.tmps[49]?.getD undef = .bool true := sf hk 34
   exact rq (.bool false) (wanted_yes rfl rfl rfl (svv hk 30)) (by simp [execOp, Act.eval, f49, go_sem]) hl hs hS
  apply sc
  ·intro a w' vs σ hS hl hs hk
   have f45 : a.tmps[45]?.getD undef = .bool false := sf hk 30
   have f50 : a.tmps[50]?.getD undef = .bool false := sf hk 35
   exact rp (.bool false) (by simp [execOp, Act.eval, f45, f50, go_sem]) hl hs hS
  apply sc
  ·intro a w' vs σ hS hl hs hk
   have f51 : a.tmps[51]?.getD undef = .bool false := sf hk 36
   exact rp (.bool false) (by simp [execOp, Act.eval, f51, go_sem]) hl hs hS
  apply sc
  ·intro a w' vs σ hS hl hs hk
   have f1 : a.tmps[1]?.getD undef = .pointer (some ⟨p, 0, none⟩) := sof hk
   exact rq (pt p 0) (wanted_yes rfl rfl rfl (svv hk 37)) (by simp [execOp, Act.eval, f1, go_sem]) hl hs hS
  apply sc
  ·intro a w' vs σ hS hl hs hk
   have e53 : a.tmps.getD 53 undef = .pointer (some ⟨p, 0, none⟩) := svv hk 38
   have h0 : σ[1]? = some .none := hs 1 (by decide)
   exact ro_call (f := 14) (wanted_yes rfl rfl rfl (svv hk 37)) rfl (by simp only [List.map_toArray, List.map_cons, List.map_nil, Act.eval, e53] <;> rfl) (fun _ _ => by kernel_rfl) ((Main_at hS (sg (hs 2 (by decide))) k24_2_good).mono fun e w2 ⟨x, h1, h2⟩ => ⟨_, h1, sp_set 1 (.grid x 83 3 k24_2.M) (by kernel_rfl) (by simp) (by decide) hl hs (by rfl) (h2.place (sg h0)) ⟨x, rfl⟩, trivial⟩)
  apply sc
  ·intro a w' vs σ hS hl hs hk
   have f3 : a.tmps[3]?.getD undef = .pointer (some ⟨b3, 0, none⟩) := sof hk
   have hx := (hS.box (sg (hs 5 (by decide)))).cellAt
   exact rq (.agg (cv cA24)) (wanted_yes rfl rfl rfl (svv hk 37)) (by simp [execOp, Act.eval, f3, go_sem, hx]) hl hs hS
  apply sc
  ·intro a w' vs σ hS hl hs hk
   have e54 : a.tmps.getD 54 undef = vs 39 := sk_val hk 39 (by kernel_rfl) rfl rfl
   have p54 : (fun u : Value => ∃ x, u = .pointer (some ⟨x, 0, none⟩)) (vs 39) := (hk.1 39 (by kernel_rfl)).1
   have e55 : a.tmps.getD 55 undef = .agg (cv cA24) := svv hk 40
   obtain ⟨g9, q9⟩ := p54
   rw [q9] at e54
   have h0 : σ[1]? = some (.grid (blkOf (vs 39)) 83 3 k24_2.M) := hs 1 (by decide)
   rw [q9, show blkOf (.pointer (some ⟨g9, 0, none⟩)) = g9 from rfl] at h0
   exact ro_call (f := 42) (wanted_yes rfl rfl rfl (svv hk 37)) rfl (by simp only [List.map_toArray, List.map_cons, List.map_nil, Act.eval, e54, e55] <;> rfl) (fun _ _ => by kernel_rfl) ((shows_at (i := 0) (j := 0) (x := cA24) hS (sg h0) (by decide) (by decide) (by decide +kernel)).mono fun e w2 ⟨h1, h2⟩ => ⟨_, h1, sp_same (by kernel_rfl) hl hs h2 rfl, trivial⟩)
  apply sc
  ·intro a w' vs σ hS hl hs hk
   have f56 : a.tmps[56]?.getD undef = .bool true := sf hk 41
   exact rq (.bool false) (wanted_yes rfl rfl rfl (svv hk 37)) (by simp [execOp, Act.eval, f56, go_sem]) hl hs hS
  apply sc
  ·intro a w' vs σ hS hl hs hk
   have f52 : a.tmps[52]?.getD undef = .bool false := sf hk 37
   have f57 : a.tmps[57]?.getD undef = .bool false := sf hk 42
   exact rp (.bool false) (by simp [execOp, Act.eval, f52, f57, go_sem]) hl hs hS
  exact SSteps.nil
 ·intro vs w' hS hv
  have q0 : vs 0 = _ := hv 0 (by decide)
  have q1 : vs 1 = _ := hv 1 (by decide)
  have q2 : vs 2 = _ := hv 2 (by decide)
  have q3 : vs 3 = _ := hv 3 (by decide)
  have q4 : vs 4 = _ := hv 4 (by decide)
  have q5 : vs 5 = _ := hv 5 (by decide)
  have q6 : vs 6 = _ := hv 6 (by decide)
  have q7 : vs 7 = _ := hv 7 (by decide)
  have q8 : vs 8 = _ := hv 8 (by decide)
  have q9 : vs 9 = _ := hv 9 (by decide)
  have q10 : vs 10 = _ := hv 10 (by decide)
  have q11 : vs 11 = _ := hv 11 (by decide)
  have q12 : vs 12 = _ := hv 12 (by decide)
  have q13 : vs 13 = _ := hv 13 (by decide)
  have q14 : vs 14 = _ := hv 14 (by decide)
  have q15 : vs 15 = _ := hv 15 (by decide)
  have q16 : vs 16 = _ := hv 16 (by decide)
  have q17 : vs 17 = _ := hv 17 (by decide)
  have q18 : vs 18 = _ := hv 18 (by decide)
  have q19 : vs 19 = _ := hv 19 (by decide)
  have q20 : vs 20 = _ := hv 20 (by decide)
  have q21 : vs 21 = _ := hv 21 (by decide)
  have q22 : vs 22 = _ := hv 22 (by decide)
  have q23 : vs 23 = _ := hv 23 (by decide)
  have q24 : vs 24 = _ := hv 24 (by decide)
  have q25 : vs 25 = _ := hv 25 (by decide)
  have q26 : vs 26 = _ := hv 26 (by decide)
  have q27 : vs 27 = _ := hv 27 (by decide)
  have q28 : vs 28 = _ := hv 28 (by decide)
  have q29 : vs 29 = _ := hv 29 (by decide)
  have q30 : vs 30 = _ := hv 30 (by decide)
  have q31 : vs 31 = _ := hv 31 (by decide)
  have q33 : vs 33 = _ := hv 33 (by decide)
  have q34 : vs 34 = _ := hv 34 (by decide)
  have q35 : vs 35 = _ := hv 35 (by decide)
  have q36 : vs 36 = _ := hv 36 (by decide)
  have q37 : vs 37 = _ := hv 37 (by decide)
  have q38 : vs 38 = _ := hv 38 (by decide)
  have q40 : vs 40 = _ := hv 40 (by decide)
  have q41 : vs 41 = _ := hv 41 (by decide)
  have q42 : vs 42 = _ := hv 42 (by decide)
  have q43 : vs 43 = _ := hv 43 (by decide)
  have S2 := Lib.hid hS
  simp only [putL, Act.put, Nat.zero_add, Nat.reduceAdd, List.setIfInBounds_toArray, List.set_cons_succ, List.set_cons_zero, q0, q1, q2, q3, q4, q5, q6, q7, q8, q9, q10, q11, q12, q13, q14, q15, q16, q17, q18, q19, q20, q21, q22, q23, q24, q25, q26, q27, q28, q29, q30, q31, q33, q34, q35, q36, q37, q38, q40, q41, q42, q43]
  clear hS hv q0 q1 q2 q3 q4 q5 q6 q7 q8 q9 q10 q11 q12 q13 q14 q15 q16 q17 q18 q19 q20 q21 q22 q23 q24 q25 q26 q27 q28 q29 q30 q31 q33 q34 q35 q36 q37 q38 q40 q41 q42 q43
  have S1_ := Lib.hid (show Objs w _ [pairO p k24_2, .box b5 35 (sv sK24), .box b4 61 (cv cE24), .box b3 61 (cv cA24)] from S2.out.tail.tail)
  clear S1 S2
  have S1 := S1_
  clear S1_
  go_upto_region 6 with (fail)
  refine wp_region_stage (w0 := w) (os := []) (by kernel_rfl) (by kernel_rfl) (by kernel_rfl) [(2, 3, [], fun vs => pairO p k24_3), (2, 9, [], fun vs => pairO p k24_3), (2, 16, [], fun vs => pairO p k24_4), (0, 21, [21], fun vs => .grid (blkOf (vs 21)) 83 3 k24_4.U), (1, 28, [28], fun vs => .grid (blkOf (vs 28)) 83 3 k24_4.U), (2, 37, [], fun vs => pairO p k24_4)] [[], [5], [], [2], [], [], [], [3], [], [2], [], [], [], [], [], [3], [2], [], [], [], [], [0, 2], [5], [0], [], [], [], [], [1, 2], [4], [1], [], [], [], [], [], [], [2], [], []] [.none, .none, pairO p k24_2, .box b5 35 (sv sK24), .box b4 61 (cv cE24), .box b3 61 (cv cA24)] (fun opn u => match opn with | 0 => u = .pointer (some ⟨p, 0, none⟩) | 1 => u = .agg (cv cA24) | 2 => u = .agg (pw 1 1 cA24) | 3 => u = .int .i64 0 | 4 => u = .bool false | 5 => u = .bool false | 6 => u = .pointer (some ⟨p, 0, none⟩) | 7 => u = .agg (sv sK24) | 8 => u = .agg (pv pen0) | 9 => u = .int .i64 11 | 10 => u = .bool false | 11 => u = .bool false | 12 => u = .bool false | 13 => u = .pointer (some ⟨p, 0, none⟩) | 14 => u = .agg (pv pen0) | 15 => u = .agg (sv sK24) | 16 => u = .bool true | 17 => u = .bool false | 18 => u = .bool false | 19 => u = .bool false | 20 => u = .pointer (some ⟨p, 0, none⟩) | 21 => ∃ x, u = .pointer (some ⟨x, 0, none⟩) | 22 => u = .agg (cv cA24) | 23 => u = .bool true | 24 => u = .bool false | 25 => u = .bool false | 26 => u = .bool false | 27 => u = .pointer (some ⟨p, 0, none⟩) | 28 => ∃ x, u = .pointer (some ⟨x, 0, none⟩) | 29 => u = .agg (cv cE24) | 30 => u = .bool true | 31 => u = .bool false | 32 => u = .bool false | 33 => u = .bool false | 34 => u = .pointer (some ⟨p, 0, none⟩) | 35 => u = .agg (pv pen0) | 36 => u = .agg (sv saved0) | 37 => u = .bool true | 38 => u = .bool false | 39 => u = .bool false | _ => True) (fun vs => [.grid (blkOf (vs 21)) 83 3 k24_4.U, .grid (blkOf (vs 28)) 83 3 k24_4.U, pairO p k24_4, .box b5 35 (sv sK24), .box b4 61 (cv cE24), .box b3 61 (cv cA24)]) (by kernel_rfl) (fun vs => by rfl) S1.out.pad.pad ?_ ?_
  ·apply sc
   ·intro a w' vs σ hS hl hs hk
    have f1 : a.tmps[1]?.getD undef = .pointer (some ⟨p, 0, none⟩) := sof hk
    exact rp (pt p 0) (by simp [execOp, Act.eval, f1, go_sem]) hl hs hS
   apply sc
   ·intro a w' vs σ hS hl hs hk
    have f3 : a.tmps[3]?.getD undef = .pointer (some ⟨b3, 0, none⟩) := sof hk
    have hx := (hS.box (sg (hs 5 (by decide)))).cellAt
    exact rp (.agg (cv cA24)) (by simp [execOp, Act.eval, f3, go_sem, hx]) hl hs hS
   apply sc
   ·intro a w' vs σ hS hl hs hk
    have f60 : a.tmps[60]?.getD undef = .agg (cv cA24) := sf hk 1
    exact rp (.agg (pw 1 1 cA24)) (by simp [execOp, Act.eval, f60, go_sem]) hl hs hS
   apply sc
   ·intro a w' vs σ hS hl hs hk
    have e59 : a.tmps.getD 59 undef = .pointer (some ⟨p, 0, none⟩) := svv hk 0
    have e61 : a.tmps.getD 61 undef = .agg (pw 1 1 cA24) := svv hk 2
    exact ro_call (f := 22) (wanted_none rfl) rfl (by simp only [List.map_toArray, List.map_cons, List.map_nil, Act.eval, e59, e61] <;> rfl) (fun _ _ => by kernel_rfl) ((front_call hS (sg (hs 2 (by decide))) (fun os1 h => k24_e3 HT.out h)).mono fun e w2 ⟨h1, h2⟩ => ⟨_, h1, sp_set 2 (pairO p k24_3) (by kernel_rfl) (by simp) (by decide) hl hs (by rfl) h2 rfl, trivial⟩)
   apply sc
   ·intro a w' vs σ hS hl hs hk
    have f62 : a.tmps[62]?.getD undef = .int .i64 0 := sf hk 3
    exact rp (.bool false) (by simp [execOp, Act.eval, f62, go_sem]) hl hs hS
   apply sc
   ·intro a w' vs σ hS hl hs hk
    have f63 : a.tmps[63]?.getD undef = .bool false := sf hk 4
    exact rp (.bool false) (by simp [execOp, Act.eval, f63, go_sem]) hl hs hS
   apply sc
   ·intro a w' vs σ hS hl hs hk
    have f1 : a.tmps[1]?.getD undef = .pointer (some ⟨p, 0, none⟩) := sof hk
    exact rq (pt p 0) (wanted_yes rfl rfl rfl (svv hk 5)) (by simp [execOp, Act.eval, f1, go_sem]) hl hs hS
   apply sc
   ·intro a w' vs σ hS hl hs hk
    have f5 : a.tmps[5]?.getD undef = .pointer (some ⟨b5, 0, none⟩) := sof hk
    have hx := (hS.box (sg (hs 3 (by decide)))).saved.2.2.2.1
    exact rq (.agg (sv sK24)) (wanted_yes rfl rfl rfl (svv hk 5)) (by simp [execOp, Act.eval, f5, go_sem, hx]) hl hs hS
   apply sc
   ·intro a w' vs σ hS hl hs hk
    exact rq (.agg (pv pen0)) (wanted_yes rfl rfl rfl (svv hk 5)) (by simp [execOp, Act.eval, go_sem]) hl hs hS
   apply sc
   ·intro a w' vs σ hS hl hs hk
    have e65 : a.tmps.getD 65 undef = .pointer (some ⟨p, 0, none⟩) := svv hk 6
    have e66 : a.tmps.getD 66 undef = .agg (sv sK24) := svv hk 7
    have e67 : a.tmps.getD 67 undef = .agg (pv pen0) := svv hk 8
    exact ro_call (f := 9) (wanted_yes rfl rfl rfl (svv hk 5)) rfl (by simp only [List.map_toArray, List.map_cons, List.map_nil, Act.eval, e65, e66, e67] <;> rfl) (fun _ _ => by kernel_rfl) ((front_call hS (sg (hs 2 (by decide))) (fun os1 h => k24_busy HT.out h)).mono fun e w2 ⟨h1, h2⟩ => ⟨_, h1, sp_set 2 (pairO p k24_3) (by kernel_rfl) (by simp) (by decide) hl hs (by rfl) h2 rfl, trivial⟩)
   apply sc
   ·intro a w' vs σ hS hl hs hk
    have f68 : a.tmps[68]?.getD undef = .int .i64 11 := sf hk 9
    exact rq (.bool false) (wanted_yes rfl rfl rfl (svv hk 5)) (by simp [execOp, Act.eval, f68, go_sem]) hl hs hS
   apply sc
   ·intro a w' vs σ hS hl hs hk
    have f64 : a.tmps[64]?.getD undef = .bool false := sf hk 5
    have f69 : a.tmps[69]?.getD undef = .bool false := sf hk 10
    exact rp (.bool false) (by simp [execOp, Act.eval, f64, f69, go_sem]) hl hs hS
   apply sc
   ·intro a w' vs σ hS hl hs hk
    have f70 : a.tmps[70]?.getD undef = .bool false := sf hk 11
    exact rp (.bool false) (by simp [execOp, Act.eval, f70, go_sem]) hl hs hS
   apply sc
   ·intro a w' vs σ hS hl hs hk
    have f1 : a.tmps[1]?.getD undef = .pointer (some ⟨p, 0, none⟩) := sof hk
    exact rq (pt p 0) (wanted_yes rfl rfl rfl (svv hk 12)) (by simp [execOp, Act.eval, f1, go_sem]) hl hs hS
   apply sc
   ·intro a w' vs σ hS hl hs hk
    exact rq (.agg (pv pen0)) (wanted_yes rfl rfl rfl (svv hk 12)) (by simp [execOp, Act.eval, go_sem]) hl hs hS
   apply sc
   ·intro a w' vs σ hS hl hs hk
    have f5 : a.tmps[5]?.getD undef = .pointer (some ⟨b5, 0, none⟩) := sof hk
    have hx := (hS.box (sg (hs 3 (by decide)))).saved.2.2.2.1
    exact rq (.agg (sv sK24)) (wanted_yes rfl rfl rfl (svv hk 12)) (by simp [execOp, Act.eval, f5, go_sem, hx]) hl hs hS
   apply sc
   ·intro a w' vs σ hS hl hs hk
    have e72 : a.tmps.getD 72 undef = .pointer (some ⟨p, 0, none⟩) := svv hk 13
    have e73 : a.tmps.getD 73 undef = .agg (pv pen0) := svv hk 14
    have e74 : a.tmps.getD 74 undef = .agg (sv sK24) := svv hk 15
    exact ro_call (f := 10) (wanted_yes rfl rfl rfl (svv hk 12)) rfl (by simp only [List.map_toArray, List.map_cons, List.map_nil, Act.eval, e72, e73, e74] <;> rfl) (fun _ _ => by kernel_rfl) ((front_call hS (sg (hs 2 (by decide))) (fun os1 h => k24_e4 HT.out h)).mono fun e w2 ⟨h1, h2⟩ => ⟨_, h1, sp_set 2 (pairO p k24_4) (by kernel_rfl) (by simp) (by decide) hl hs (by rfl) h2 rfl, trivial⟩)
   apply sc
   ·intro a w' vs σ hS hl hs hk
    have f75 : a.tmps[75]?.getD undef = .bool true := sf hk 16
    exact rq (.bool false) (wanted_yes rfl rfl rfl (svv hk 12)) (by simp [execOp, Act.eval, f75, go_sem]) hl hs hS
   apply sc
   ·intro a w' vs σ hS hl hs hk
    have f71 : a.tmps[71]?.getD undef = .bool false := sf hk 12
    have f76 : a.tmps[76]?.getD undef = .bool false := sf hk 17
    exact rp (.bool false) (by simp [execOp, Act.eval, f71, f76, go_sem]) hl hs hS
   apply sc
   ·intro a w' vs σ hS hl hs hk
    have f77 : a.tmps[77]?.getD undef = .bool false := sf hk 18
    exact rp (.bool false) (by simp [execOp, Act.eval, f77, go_sem]) hl hs hS
   apply sc
   ·intro a w' vs σ hS hl hs hk
    have f1 : a.tmps[1]?.getD undef = .pointer (some ⟨p, 0, none⟩) := sof hk
    exact rq (pt p 0) (wanted_yes rfl rfl rfl (svv hk 19)) (by simp [execOp, Act.eval, f1, go_sem]) hl hs hS
   apply sc
   ·intro a w' vs σ hS hl hs hk
    have e79 : a.tmps.getD 79 undef = .pointer (some ⟨p, 0, none⟩) := svv hk 20
    have h0 : σ[0]? = some .none := hs 0 (by decide)
    exact ro_call (f := 13) (wanted_yes rfl rfl rfl (svv hk 19)) rfl (by simp only [List.map_toArray, List.map_cons, List.map_nil, Act.eval, e79] <;> rfl) (fun _ _ => by kernel_rfl) ((Grid_at hS (sg (hs 2 (by decide))) k24_4_good).mono fun e w2 ⟨x, h1, h2⟩ => ⟨_, h1, sp_set 0 (.grid x 83 3 k24_4.U) (by kernel_rfl) (by simp) (by decide) hl hs (by rfl) (h2.place (sg h0)) ⟨x, rfl⟩, trivial⟩)
   apply sc
   ·intro a w' vs σ hS hl hs hk
    have f3 : a.tmps[3]?.getD undef = .pointer (some ⟨b3, 0, none⟩) := sof hk
    have hx := (hS.box (sg (hs 5 (by decide)))).cellAt
    exact rq (.agg (cv cA24)) (wanted_yes rfl rfl rfl (svv hk 19)) (by simp [execOp, Act.eval, f3, go_sem, hx]) hl hs hS
   apply sc
   ·intro a w' vs σ hS hl hs hk
    have e80 : a.tmps.getD 80 undef = vs 21 := sk_val hk 21 (by kernel_rfl) rfl rfl
    have p80 : (fun u : Value => ∃ x, u = .pointer (some ⟨x, 0, none⟩)) (vs 21) := (hk.1 21 (by kernel_rfl)).1
    have e81 : a.tmps.getD 81 undef = .agg (cv cA24) := svv hk 22
    obtain ⟨g9, q9⟩ := p80
    rw [q9] at e80
    have h0 : σ[0]? = some (.grid (blkOf (vs 21)) 83 3 k24_4.U) := hs 0 (by decide)
    rw [q9, show blkOf (.pointer (some ⟨g9, 0, none⟩)) = g9 from rfl] at h0
    exact ro_call (f := 42) (wanted_yes rfl rfl rfl (svv hk 19)) rfl (by simp only [List.map_toArray, List.map_cons, List.map_nil, Act.eval, e80, e81] <;> rfl) (fun _ _ => by kernel_rfl) ((shows_at (i := 0) (j := 0) (x := cA24) hS (sg h0) (by decide) (by decide) (by decide +kernel)).mono fun e w2 ⟨h1, h2⟩ => ⟨_, h1, sp_same (by kernel_rfl) hl hs h2 rfl, trivial⟩)
   apply sc
   ·intro a w' vs σ hS hl hs hk
    have f82 : a.tmps[82]?.getD undef = .bool true := sf hk 23
    exact rq (.bool false) (wanted_yes rfl rfl rfl (svv hk 19)) (by simp [execOp, Act.eval, f82, go_sem]) hl hs hS
   apply sc
   ·intro a w' vs σ hS hl hs hk
    have f78 : a.tmps[78]?.getD undef = .bool false := sf hk 19
    have f83 : a.tmps[83]?.getD undef = .bool false := sf hk 24
    exact rp (.bool false) (by simp [execOp, Act.eval, f78, f83, go_sem]) hl hs hS
   apply sc
   ·intro a w' vs σ hS hl hs hk
    have f84 : a.tmps[84]?.getD undef = .bool false := sf hk 25
    exact rp (.bool false) (by simp [execOp, Act.eval, f84, go_sem]) hl hs hS
   apply sc
   ·intro a w' vs σ hS hl hs hk
    have f1 : a.tmps[1]?.getD undef = .pointer (some ⟨p, 0, none⟩) := sof hk
    exact rq (pt p 0) (wanted_yes rfl rfl rfl (svv hk 26)) (by simp [execOp, Act.eval, f1, go_sem]) hl hs hS
   apply sc
   ·intro a w' vs σ hS hl hs hk
    have e86 : a.tmps.getD 86 undef = .pointer (some ⟨p, 0, none⟩) := svv hk 27
    have h0 : σ[1]? = some .none := hs 1 (by decide)
    exact ro_call (f := 13) (wanted_yes rfl rfl rfl (svv hk 26)) rfl (by simp only [List.map_toArray, List.map_cons, List.map_nil, Act.eval, e86] <;> rfl) (fun _ _ => by kernel_rfl) ((Grid_at hS (sg (hs 2 (by decide))) k24_4_good).mono fun e w2 ⟨x, h1, h2⟩ => ⟨_, h1, sp_set 1 (.grid x 83 3 k24_4.U) (by kernel_rfl) (by simp) (by decide) hl hs (by rfl) (h2.place (sg h0)) ⟨x, rfl⟩, trivial⟩)
   apply sc
   ·intro a w' vs σ hS hl hs hk
    have f4 : a.tmps[4]?.getD undef = .pointer (some ⟨b4, 0, none⟩) := sof hk
    have hx := (hS.box (sg (hs 4 (by decide)))).cellAt
    exact rq (.agg (cv cE24)) (wanted_yes rfl rfl rfl (svv hk 26)) (by simp [execOp, Act.eval, f4, go_sem, hx]) hl hs hS
   apply sc
   ·intro a w' vs σ hS hl hs hk
    have e87 : a.tmps.getD 87 undef = vs 28 := sk_val hk 28 (by kernel_rfl) rfl rfl
    have p87 : (fun u : Value => ∃ x, u = .pointer (some ⟨x, 0, none⟩)) (vs 28) := (hk.1 28 (by kernel_rfl)).1
    have e88 : a.tmps.getD 88 undef = .agg (cv cE24) := svv hk 29
    obtain ⟨g9, q9⟩ := p87
    rw [q9] at e87
    have h0 : σ[1]? = some (.grid (blkOf (vs 28)) 83 3 k24_4.U) := hs 1 (by decide)
    rw [q9, show blkOf (.pointer (some ⟨g9, 0, none⟩)) = g9 from rfl] at h0
    exact ro_call (f := 42) (wanted_yes rfl rfl rfl (svv hk 26)) rfl (by simp only [List.map_toArray, List.map_cons, List.map_nil, Act.eval, e87, e88] <;> rfl) (fun _ _ => by kernel_rfl) ((shows_at (i := 1) (j := 1) (x := cE24) hS (sg h0) (by decide) (by decide) (by decide +kernel)).mono fun e w2 ⟨h1, h2⟩ => ⟨_, h1, sp_same (by kernel_rfl) hl hs h2 rfl, trivial⟩)
   apply sc
   ·intro a w' vs σ hS hl hs hk
    have f89 : a.tmps[89]?.getD undef = .bool true := sf hk 30
    exact rq (.bool false) (wanted_yes rfl rfl rfl (svv hk 26)) (by simp [execOp, Act.eval, f89, go_sem]) hl hs hS
   apply sc
   ·intro a w' vs σ hS hl hs hk
    have f85 : a.tmps[85]?.getD undef = .bool false := sf hk 26
    have f90 : a.tmps[90]?.getD undef = .bool false := sf hk 31
    exact rp (.bool false) (by simp [execOp, Act.eval, f85, f90, go_sem]) hl hs hS
   apply sc
   ·intro a w' vs σ hS hl hs hk
    have f91 : a.tmps[91]?.getD undef = .bool false := sf hk 32
    exact rp (.bool false) (by simp [execOp, Act.eval, f91, go_sem]) hl hs hS
   apply sc
   ·intro a w' vs σ hS hl hs hk
    have f1 : a.tmps[1]?.getD undef = .pointer (some ⟨p, 0, none⟩) := sof hk
    exact rq (pt p 0) (wanted_yes rfl rfl rfl (svv hk 33)) (by simp [execOp, Act.eval, f1, go_sem]) hl hs hS
   apply sc
   ·intro a w' vs σ hS hl hs hk
    exact rq (.agg (pv pen0)) (wanted_yes rfl rfl rfl (svv hk 33)) (by simp [execOp, Act.eval, go_sem]) hl hs hS
   apply sc
   ·intro a w' vs σ hS hl hs hk
    exact rq (.agg (sv saved0)) (wanted_yes rfl rfl rfl (svv hk 33)) (by simp [execOp, Act.eval, go_sem]) hl hs hS
   apply sc
   ·intro a w' vs σ hS hl hs hk
    have e93 : a.tmps.getD 93 undef = .pointer (some ⟨p, 0, none⟩) := svv hk 34
    have e94 : a.tmps.getD 94 undef = .agg (pv pen0) := svv hk 35
    have e95 : a.tmps.getD 95 undef = .agg (sv saved0) := svv hk 36
    exact ro_call (f := 10) (wanted_yes rfl rfl rfl (svv hk 33)) rfl (by simp only [List.map_toArray, List.map_cons, List.map_nil, Act.eval, e93, e94, e95] <;> rfl) (fun _ _ => by kernel_rfl) ((front_call hS (sg (hs 2 (by decide))) (fun os1 h => k24_e4b HT.out h)).mono fun e w2 ⟨h1, h2⟩ => ⟨_, h1, sp_set 2 (pairO p k24_4) (by kernel_rfl) (by simp) (by decide) hl hs (by rfl) h2 rfl, trivial⟩)
   apply sc
   ·intro a w' vs σ hS hl hs hk
    have f96 : a.tmps[96]?.getD undef = .bool true := sf hk 37
    exact rq (.bool false) (wanted_yes rfl rfl rfl (svv hk 33)) (by simp [execOp, Act.eval, f96, go_sem]) hl hs hS
   apply sc
   ·intro a w' vs σ hS hl hs hk
    have f92 : a.tmps[92]?.getD undef = .bool false := sf hk 33
    have f97 : a.tmps[97]?.getD undef = .bool false := sf hk 38
    exact rp (.bool false) (by simp [execOp, Act.eval, f92, f97, go_sem]) hl hs hS
   exact SSteps.nil
  ·intro vs w' hS hv
   have q0 : vs 0 = _ := hv 0 (by decide)
   have q1 : vs 1 = _ := hv 1 (by decide)
   have q2 : vs 2 = _ := hv 2 (by decide)
   have q3 : vs 3 = _ := hv 3 (by decide)
   have q4 : vs 4 = _ := hv 4 (by decide)
   have q5 : vs 5 = _ := hv 5 (by decide)
   have q6 : vs 6 = _ := hv 6 (by decide)
   have q7 : vs 7 = _ := hv 7 (by decide)
   have q8 : vs 8 = _ := hv 8 (by decide)
   have q9 : vs 9 = _ := hv 9 (by decide)
   have q10 : vs 10 = _ := hv 10 (by decide)
   have q11 : vs 11 = _ := hv 11 (by decide)
   have q12 : vs 12 = _ := hv 12 (by decide)
   have q13 : vs 13 = _ := hv 13 (by decide)
   have q14 : vs 14 = _ := hv 14 (by decide)
   have q15 : vs 15 = _ := hv 15 (by decide)
   have q16 : vs 16 = _ := hv 16 (by decide)
   have q17 : vs 17 = _ := hv 17 (by decide)
   have q18 : vs 18 = _ := hv 18 (by decide)
   have q19 : vs 19 = _ := hv 19 (by decide)
   have q20 : vs 20 = _ := hv 20 (by decide)
   have q22 : vs 22 = _ := hv 22 (by decide)
   have q23 : vs 23 = _ := hv 23 (by decide)
   have q24 : vs 24 = _ := hv 24 (by decide)
   have q25 : vs 25 = _ := hv 25 (by decide)
   have q26 : vs 26 = _ := hv 26 (by decide)
   have q27 : vs 27 = _ := hv 27 (by decide)
   have q29 : vs 29 = _ := hv 29 (by decide)
   have q30 : vs 30 = _ := hv 30 (by decide)
   have q31 : vs 31 = _ := hv 31 (by decide)
   have q32 : vs 32 = _ := hv 32 (by decide)
   have q33 : vs 33 = _ := hv 33 (by decide)
   have q34 : vs 34 = _ := hv 34 (by decide)
   have q35 : vs 35 = _ := hv 35 (by decide)
   have q36 : vs 36 = _ := hv 36 (by decide)
   have q37 : vs 37 = _ := hv 37 (by decide)
   have q38 : vs 38 = _ := hv 38 (by decide)
   have q39 : vs 39 = _ := hv 39 (by decide)
   have S2 := Lib.hid hS
   simp only [putL, Act.put, Nat.zero_add, Nat.reduceAdd, List.setIfInBounds_toArray, List.set_cons_succ, List.set_cons_zero, q0, q1, q2, q3, q4, q5, q6, q7, q8, q9, q10, q11, q12, q13, q14, q15, q16, q17, q18, q19, q20, q22, q23, q24, q25, q26, q27, q29, q30, q31, q32, q33, q34, q35, q36, q37, q38, q39]
   clear hS hv q0 q1 q2 q3 q4 q5 q6 q7 q8 q9 q10 q11 q12 q13 q14 q15 q16 q17 q18 q19 q20 q22 q23 q24 q25 q26 q27 q29 q30 q31 q32 q33 q34 q35 q36 q37 q38 q39
   have S1_ := Lib.hid (show Objs w _ [pairO p k24_4, .box b5 35 (sv sK24), .box b4 61 (cv cE24), .box b3 61 (cv cA24)] from S2.out.tail.tail)
   clear S1 S2
   have S1 := S1_
   clear S1_
   go_upto_region 8 with (fail)
   refine wp_region_stage (w0 := w) (os := []) (by kernel_rfl) (by kernel_rfl) (by kernel_rfl) [(2, 3, [], fun vs => pairO p k24_5), (0, 7, [7], fun vs => .grid (blkOf (vs 7)) 83 3 k24_5.U), (2, 16, [], fun vs => pairO p k24_6), (2, 23, [], fun vs => pairO p k24_7), (1, 28, [28], fun vs => .grid (blkOf (vs 28)) 83 3 k24_7.U)] [[], [3], [], [2], [], [], [], [0, 2], [5], [0], [], [], [], [], [], [], [2], [], [], [], [], [3], [], [2], [], [], [], [], [1, 2], [4], [1], [], []] [.none, .none, pairO p k24_4, .box b5 35 (sv sK24), .box b4 61 (cv cE24), .box b3 61 (cv cA24)] (fun opn u => match opn with | 0 => u = .pointer (some ⟨p, 0, none⟩) | 1 => u = .agg (sv sK24) | 2 => u = .agg (pv pen0) | 3 => u = .int .i64 0 | 4 => u = .bool false | 5 => u = .bool false | 6 => u = .pointer (some ⟨p, 0, none⟩) | 7 => ∃ x, u = .pointer (some ⟨x, 0, none⟩) | 8 => u = .agg (cv cA24) | 9 => u = .bool true | 10 => u = .bool false | 11 => u = .bool false | 12 => u = .bool false | 13 => u = .pointer (some ⟨p, 0, none⟩) | 14 => u = .agg (pv pen0) | 15 => u = .agg (sv saved0) | 16 => u = .bool true | 17 => u = .bool false | 18 => u = .bool false | 19 => u = .bool false | 20 => u = .pointer (some ⟨p, 0, none⟩) | 21 => u = .agg (sv sK24) | 22 => u = .agg (pv pen0) | 23 => u = .int .i64 0 | 24 => u = .bool false | 25 => u = .bool false | 26 => u = .bool false | 27 => u = .pointer (some ⟨p, 0, none⟩) | 28 => ∃ x, u = .pointer (some ⟨x, 0, none⟩) | 29 => u = .agg (cv cE24) | 30 => u = .bool true | 31 => u = .bool false | 32 => u = .bool false | _ => True) (fun vs => [.grid (blkOf (vs 7)) 83 3 k24_5.U, .grid (blkOf (vs 28)) 83 3 k24_7.U, pairO p k24_7, .box b5 35 (sv sK24), .box b4 61 (cv cE24), .box b3 61 (cv cA24)]) (by kernel_rfl) (fun vs => by rfl) S1.out.pad.pad ?_ ?_
   ·apply sc
    ·intro a w' vs σ hS hl hs hk
     have f1 : a.tmps[1]?.getD undef = .pointer (some ⟨p, 0, none⟩) := sof hk
     exact rp (pt p 0) (by simp [execOp, Act.eval, f1, go_sem]) hl hs hS
    apply sc
    ·intro a w' vs σ hS hl hs hk
     have f5 : a.tmps[5]?.getD undef = .pointer (some ⟨b5, 0, none⟩) := sof hk
     have hx := (hS.box (sg (hs 3 (by decide)))).saved.2.2.2.1
     exact rp (.agg (sv sK24)) (by simp [execOp, Act.eval, f5, go_sem, hx]) hl hs hS
    apply sc
    ·intro a w' vs σ hS hl hs hk
     exact rp (.agg (pv pen0)) (by simp [execOp, Act.eval, go_sem]) hl hs hS
    apply sc
    ·intro a w' vs σ hS hl hs hk
     have e99 : a.tmps.getD 99 undef = .pointer (some ⟨p, 0, none⟩) := svv hk 0
     have e100 : a.tmps.getD 100 undef = .agg (sv sK24) := svv hk 1
     have e101 : a.tmps.getD 101 undef = .agg (pv pen0) := svv hk 2
     exact ro_call (f := 9) (wanted_none rfl) rfl (by simp only [List.map_toArray, List.map_cons, List.map_nil, Act.eval, e99, e100, e101] <;> rfl) (fun _ _ => by kernel_rfl) ((front_call hS (sg (hs 2 (by decide))) (fun os1 h => k24_e5 HT.out h)).mono fun e w2 ⟨h1, h2⟩ => ⟨_, h1, sp_set 2 (pairO p k24_5) (by kernel_rfl) (by simp) (by decide) hl hs (by rfl) h2 rfl, trivial⟩)
    apply sc
    ·intro a w' vs σ hS hl hs hk
     have f102 : a.tmps[102]?.getD undef = .int .i64 0 := sf hk 3
     exact rp (.bool false) (by simp [execOp, Act.eval, f102, go_sem]) hl hs hS
    apply sc
    ·intro a w' vs σ hS hl hs hk
     have f103 : a.tmps[103]?.getD undef = .bool false := sf hk 4
     exact rp (.bool false) (by simp [execOp, Act.eval, f103, go_sem]) hl hs hS
    apply sc
    ·intro a w' vs σ hS hl hs hk
     have f1 : a.tmps[1]?.getD undef = .pointer (some ⟨p, 0, none⟩) := sof hk
     exact rq (pt p 0) (wanted_yes rfl rfl rfl (svv hk 5)) (by simp [execOp, Act.eval, f1, go_sem]) hl hs hS
    apply sc
    ·intro a w' vs σ hS hl hs hk
     have e105 : a.tmps.getD 105 undef = .pointer (some ⟨p, 0, none⟩) := svv hk 6
     have h0 : σ[0]? = some .none := hs 0 (by decide)
     exact ro_call (f := 13) (wanted_yes rfl rfl rfl (svv hk 5)) rfl (by simp only [List.map_toArray, List.map_cons, List.map_nil, Act.eval, e105] <;> rfl) (fun _ _ => by kernel_rfl) ((Grid_at hS (sg (hs 2 (by decide))) k24_5_good).mono fun e w2 ⟨x, h1, h2⟩ => ⟨_, h1, sp_set 0 (.grid x 83 3 k24_5.U) (by kernel_rfl) (by simp) (by decide) hl hs (by rfl) (h2.place (sg h0)) ⟨x, rfl⟩, trivial⟩)
    apply sc
    ·intro a w' vs σ hS hl hs hk
     have f3 : a.tmps[3]?.getD undef = .pointer (some ⟨b3, 0, none⟩) := sof hk
     have hx := (hS.box (sg (hs 5 (by decide)))).cellAt
     exact rq (.agg (cv cA24)) (wanted_yes rfl rfl rfl (svv hk 5)) (by simp [execOp, Act.eval, f3, go_sem, hx]) hl hs hS
    apply sc
    ·intro a w' vs σ hS hl hs hk
     have e106 : a.tmps.getD 106 undef = vs 7 := sk_val hk 7 (by kernel_rfl) rfl rfl
     have p106 : (fun u : Value => ∃ x, u = .pointer (some ⟨x, 0, none⟩)) (vs 7) := (hk.1 7 (by kernel_rfl)).1
     have e107 : a.tmps.getD 107 undef = .agg (cv cA24) := svv hk 8
     obtain ⟨g9, q9⟩ := p106
     rw [q9] at e106
     have h0 : σ[0]? = some (.grid (blkOf (vs 7)) 83 3 k24_5.U) := hs 0 (by decide)
     rw [q9, show blkOf (.pointer (some ⟨g9, 0, none⟩)) = g9 from rfl] at h0
     exact ro_call (f := 42) (wanted_yes rfl rfl rfl (svv hk 5)) rfl (by simp only [List.map_toArray, List.map_cons, List.map_nil, Act.eval, e106, e107] <;> rfl) (fun _ _ => by kernel_rfl) ((shows_at (i := 1) (j := 1) (x := cA24) hS (sg h0) (by decide) (by decide) (by decide +kernel)).mono fun e w2 ⟨h1, h2⟩ => ⟨_, h1, sp_same (by kernel_rfl) hl hs h2 rfl, trivial⟩)
    apply sc
    ·intro a w' vs σ hS hl hs hk
     have f108 : a.tmps[108]?.getD undef = .bool true := sf hk 9
     exact rq (.bool false) (wanted_yes rfl rfl rfl (svv hk 5)) (by simp [execOp, Act.eval, f108, go_sem]) hl hs hS
    apply sc
    ·intro a w' vs σ hS hl hs hk
     have f104 : a.tmps[104]?.getD undef = .bool false := sf hk 5
     have f109 : a.tmps[109]?.getD undef = .bool false := sf hk 10
     exact rp (.bool false) (by simp [execOp, Act.eval, f104, f109, go_sem]) hl hs hS
    apply sc
    ·intro a w' vs σ hS hl hs hk
     have f110 : a.tmps[110]?.getD undef = .bool false := sf hk 11
     exact rp (.bool false) (by simp [execOp, Act.eval, f110, go_sem]) hl hs hS
    apply sc
    ·intro a w' vs σ hS hl hs hk
     have f1 : a.tmps[1]?.getD undef = .pointer (some ⟨p, 0, none⟩) := sof hk
     exact rq (pt p 0) (wanted_yes rfl rfl rfl (svv hk 12)) (by simp [execOp, Act.eval, f1, go_sem]) hl hs hS
    apply sc
    ·intro a w' vs σ hS hl hs hk
     exact rq (.agg (pv pen0)) (wanted_yes rfl rfl rfl (svv hk 12)) (by simp [execOp, Act.eval, go_sem]) hl hs hS
    apply sc
    ·intro a w' vs σ hS hl hs hk
     exact rq (.agg (sv saved0)) (wanted_yes rfl rfl rfl (svv hk 12)) (by simp [execOp, Act.eval, go_sem]) hl hs hS
    apply sc
    ·intro a w' vs σ hS hl hs hk
     have e112 : a.tmps.getD 112 undef = .pointer (some ⟨p, 0, none⟩) := svv hk 13
     have e113 : a.tmps.getD 113 undef = .agg (pv pen0) := svv hk 14
     have e114 : a.tmps.getD 114 undef = .agg (sv saved0) := svv hk 15
     exact ro_call (f := 10) (wanted_yes rfl rfl rfl (svv hk 12)) rfl (by simp only [List.map_toArray, List.map_cons, List.map_nil, Act.eval, e112, e113, e114] <;> rfl) (fun _ _ => by kernel_rfl) ((front_call hS (sg (hs 2 (by decide))) (fun os1 h => k24_e6 HT.out h)).mono fun e w2 ⟨h1, h2⟩ => ⟨_, h1, sp_set 2 (pairO p k24_6) (by kernel_rfl) (by simp) (by decide) hl hs (by rfl) h2 rfl, trivial⟩)
    apply sc
    ·intro a w' vs σ hS hl hs hk
     have f115 : a.tmps[115]?.getD undef = .bool true := sf hk 16
     exact rq (.bool false) (wanted_yes rfl rfl rfl (svv hk 12)) (by simp [execOp, Act.eval, f115, go_sem]) hl hs hS
    apply sc
    ·intro a w' vs σ hS hl hs hk
     have f111 : a.tmps[111]?.getD undef = .bool false := sf hk 12
     have f116 : a.tmps[116]?.getD undef = .bool false := sf hk 17
     exact rp (.bool false) (by simp [execOp, Act.eval, f111, f116, go_sem]) hl hs hS
    apply sc
    ·intro a w' vs σ hS hl hs hk
     have f117 : a.tmps[117]?.getD undef = .bool false := sf hk 18
     exact rp (.bool false) (by simp [execOp, Act.eval, f117, go_sem]) hl hs hS
    apply sc
    ·intro a w' vs σ hS hl hs hk
     have f1 : a.tmps[1]?.getD undef = .pointer (some ⟨p, 0, none⟩) := sof hk
     exact rq (pt p 0) (wanted_yes rfl rfl rfl (svv hk 19)) (by simp [execOp, Act.eval, f1, go_sem]) hl hs hS
    apply sc
    ·intro a w' vs σ hS hl hs hk
     have f5 : a.tmps[5]?.getD undef = .pointer (some ⟨b5, 0, none⟩) := sof hk
     have hx := (hS.box (sg (hs 3 (by decide)))).saved.2.2.2.1
     exact rq (.agg (sv sK24)) (wanted_yes rfl rfl rfl (svv hk 19)) (by simp [execOp, Act.eval, f5, go_sem, hx]) hl hs hS
    apply sc
    ·intro a w' vs σ hS hl hs hk
     exact rq (.agg (pv pen0)) (wanted_yes rfl rfl rfl (svv hk 19)) (by simp [execOp, Act.eval, go_sem]) hl hs hS
    apply sc
    ·intro a w' vs σ hS hl hs hk
     have e119 : a.tmps.getD 119 undef = .pointer (some ⟨p, 0, none⟩) := svv hk 20
     have e120 : a.tmps.getD 120 undef = .agg (sv sK24) := svv hk 21
     have e121 : a.tmps.getD 121 undef = .agg (pv pen0) := svv hk 22
     exact ro_call (f := 9) (wanted_yes rfl rfl rfl (svv hk 19)) rfl (by simp only [List.map_toArray, List.map_cons, List.map_nil, Act.eval, e119, e120, e121] <;> rfl) (fun _ _ => by kernel_rfl) ((front_call hS (sg (hs 2 (by decide))) (fun os1 h => k24_e7 HT.out h)).mono fun e w2 ⟨h1, h2⟩ => ⟨_, h1, sp_set 2 (pairO p k24_7) (by kernel_rfl) (by simp) (by decide) hl hs (by rfl) h2 rfl, trivial⟩)
    apply sc
    ·intro a w' vs σ hS hl hs hk
     have f122 : a.tmps[122]?.getD undef = .int .i64 0 := sf hk 23
     exact rq (.bool false) (wanted_yes rfl rfl rfl (svv hk 19)) (by simp [execOp, Act.eval, f122, go_sem]) hl hs hS
    apply sc
    ·intro a w' vs σ hS hl hs hk
     have f118 : a.tmps[118]?.getD undef = .bool false := sf hk 19
     have f123 : a.tmps[123]?.getD undef = .bool false := sf hk 24
     exact rp (.bool false) (by simp [execOp, Act.eval, f118, f123, go_sem]) hl hs hS
    apply sc
    ·intro a w' vs σ hS hl hs hk
     have f124 : a.tmps[124]?.getD undef = .bool false := sf hk 25
     exact rp (.bool false) (by simp [execOp, Act.eval, f124, go_sem]) hl hs hS
    apply sc
    ·intro a w' vs σ hS hl hs hk
     have f1 : a.tmps[1]?.getD undef = .pointer (some ⟨p, 0, none⟩) := sof hk
     exact rq (pt p 0) (wanted_yes rfl rfl rfl (svv hk 26)) (by simp [execOp, Act.eval, f1, go_sem]) hl hs hS
    apply sc
    ·intro a w' vs σ hS hl hs hk
     have e126 : a.tmps.getD 126 undef = .pointer (some ⟨p, 0, none⟩) := svv hk 27
     have h0 : σ[1]? = some .none := hs 1 (by decide)
     exact ro_call (f := 13) (wanted_yes rfl rfl rfl (svv hk 26)) rfl (by simp only [List.map_toArray, List.map_cons, List.map_nil, Act.eval, e126] <;> rfl) (fun _ _ => by kernel_rfl) ((Grid_at hS (sg (hs 2 (by decide))) k24_7_good).mono fun e w2 ⟨x, h1, h2⟩ => ⟨_, h1, sp_set 1 (.grid x 83 3 k24_7.U) (by kernel_rfl) (by simp) (by decide) hl hs (by rfl) (h2.place (sg h0)) ⟨x, rfl⟩, trivial⟩)
    apply sc
    ·intro a w' vs σ hS hl hs hk
     have f4 : a.tmps[4]?.getD undef = .pointer (some ⟨b4, 0, none⟩) := sof hk
     have hx := (hS.box (sg (hs 4 (by decide)))).cellAt
     exact rq (.agg (cv cE24)) (wanted_yes rfl rfl rfl (svv hk 26)) (by simp [execOp, Act.eval, f4, go_sem, hx]) hl hs hS
    apply sc
    ·intro a w' vs σ hS hl hs hk
     have e127 : a.tmps.getD 127 undef = vs 28 := sk_val hk 28 (by kernel_rfl) rfl rfl
     have p127 : (fun u : Value => ∃ x, u = .pointer (some ⟨x, 0, none⟩)) (vs 28) := (hk.1 28 (by kernel_rfl)).1
     have e128 : a.tmps.getD 128 undef = .agg (cv cE24) := svv hk 29
     obtain ⟨g9, q9⟩ := p127
     rw [q9] at e127
     have h0 : σ[1]? = some (.grid (blkOf (vs 28)) 83 3 k24_7.U) := hs 1 (by decide)
     rw [q9, show blkOf (.pointer (some ⟨g9, 0, none⟩)) = g9 from rfl] at h0
     exact ro_call (f := 42) (wanted_yes rfl rfl rfl (svv hk 26)) rfl (by simp only [List.map_toArray, List.map_cons, List.map_nil, Act.eval, e127, e128] <;> rfl) (fun _ _ => by kernel_rfl) ((shows_at (i := 1) (j := 1) (x := cE24) hS (sg h0) (by decide) (by decide) (by decide +kernel)).mono fun e w2 ⟨h1, h2⟩ => ⟨_, h1, sp_same (by kernel_rfl) hl hs h2 rfl, trivial⟩)
    apply sc
    ·intro a w' vs σ hS hl hs hk
     have f129 : a.tmps[129]?.getD undef = .bool true := sf hk 30
     exact rq (.bool false) (wanted_yes rfl rfl rfl (svv hk 26)) (by simp [execOp, Act.eval, f129, go_sem]) hl hs hS
    apply sc
    ·intro a w' vs σ hS hl hs hk
     have f125 : a.tmps[125]?.getD undef = .bool false := sf hk 26
     have f130 : a.tmps[130]?.getD undef = .bool false := sf hk 31
     exact rp (.bool false) (by simp [execOp, Act.eval, f125, f130, go_sem]) hl hs hS
    exact SSteps.nil
   ·intro vs w' hS hv
    have q0 : vs 0 = _ := hv 0 (by decide)
    have q1 : vs 1 = _ := hv 1 (by decide)
    have q2 : vs 2 = _ := hv 2 (by decide)
    have q3 : vs 3 = _ := hv 3 (by decide)
    have q4 : vs 4 = _ := hv 4 (by decide)
    have q5 : vs 5 = _ := hv 5 (by decide)
    have q6 : vs 6 = _ := hv 6 (by decide)
    have q8 : vs 8 = _ := hv 8 (by decide)
    have q9 : vs 9 = _ := hv 9 (by decide)
    have q10 : vs 10 = _ := hv 10 (by decide)
    have q11 : vs 11 = _ := hv 11 (by decide)
    have q12 : vs 12 = _ := hv 12 (by decide)
    have q13 : vs 13 = _ := hv 13 (by decide)
    have q14 : vs 14 = _ := hv 14 (by decide)
    have q15 : vs 15 = _ := hv 15 (by decide)
    have q16 : vs 16 = _ := hv 16 (by decide)
    have q17 : vs 17 = _ := hv 17 (by decide)
    have q18 : vs 18 = _ := hv 18 (by decide)
    have q19 : vs 19 = _ := hv 19 (by decide)
    have q20 : vs 20 = _ := hv 20 (by decide)
    have q21 : vs 21 = _ := hv 21 (by decide)
    have q22 : vs 22 = _ := hv 22 (by decide)
    have q23 : vs 23 = _ := hv 23 (by decide)
    have q24 : vs 24 = _ := hv 24 (by decide)
    have q25 : vs 25 = _ := hv 25 (by decide)
    have q26 : vs 26 = _ := hv 26 (by decide)
    have q27 : vs 27 = _ := hv 27 (by decide)
    have q29 : vs 29 = _ := hv 29 (by decide)
    have q30 : vs 30 = _ := hv 30 (by decide)
    have q31 : vs 31 = _ := hv 31 (by decide)
    have q32 : vs 32 = _ := hv 32 (by decide)
    have S2 := Lib.hid hS
    simp only [putL, Act.put, Nat.zero_add, Nat.reduceAdd, List.setIfInBounds_toArray, List.set_cons_succ, List.set_cons_zero, q0, q1, q2, q3, q4, q5, q6, q8, q9, q10, q11, q12, q13, q14, q15, q16, q17, q18, q19, q20, q21, q22, q23, q24, q25, q26, q27, q29, q30, q31, q32]
    clear hS hv q0 q1 q2 q3 q4 q5 q6 q8 q9 q10 q11 q12 q13 q14 q15 q16 q17 q18 q19 q20 q21 q22 q23 q24 q25 q26 q27 q29 q30 q31 q32
    have S1_ := Lib.hid (show Objs w _ [pairO p k24_7, .box b5 35 (sv sK24), .box b4 61 (cv cE24), .box b3 61 (cv cA24)] from S2.out.tail.tail)
    clear S1 S2
    have S1 := S1_
    clear S1_
    go_wp2_with fail
    refine (pairNew_no 0 1 (by decide) S1.out).mono ?_
    rintro e w9 ⟨rfl, hS⟩
    have S3 := Lib.hid hS
    clear hS S1
    obtain ⟨hx5, hf5, hz5, hr5, hp5⟩ := (S3.out.box (k := 1) rfl).saved
    go_wp2_with fail
    refine (show Calls Tryd.prog 9 #[.pointer (some ⟨p, 0, none⟩), .int .i64 1048, .agg (sv sK24), .agg (pv pen0)] _ _ from k24_e8 HT.out S3.out).mono ?_
    rintro e w10 ⟨rfl, hS⟩
    have HB := Lib.hid hS.base
    clear hS S3 hx5 hf5 hz5 hr5 hp5
    go_wp2_with fail
    go_ret
    exact ⟨rfl, HB.out⟩
end Go.Proofs.YtdndoikgnohkkaaDoor

namespace Go.Proofs.YtdndoikgnohkkaaDoor
open Go.RowKit

structure Act24 where
 what : Int
 n : Int
 row : Int
 col : Int
 x : Cell
 s : Saved
 q : Pen
 A : Option Addr
 c : Nat
 L : List Ln
def av24 (a : Act24) : Array Value := #[.int .i64 a.what, .int .i64 a.n, .int .i64 a.row, .int .i64 a.col, .int .i32 a.x.rune, .int .i32 a.x.m0, .int .i32 a.x.m1, .int .i32 a.x.m2, .int .i64 a.x.width, .int .i64 a.x.pen.fk, .int .u8 a.x.pen.fi, .int .u8 a.x.pen.fr, .int .u8 a.x.pen.fg, .int .u8 a.x.pen.fb, .int .i64 a.x.pen.bk, .int .u8 a.x.pen.bi, .int .u8 a.x.pen.br, .int .u8 a.x.pen.bg, .int .u8 a.x.pen.bb, .int .u8 a.x.pen.fl, .int .i64 a.s.row, .int .i64 a.s.col, .bool a.s.pend, .int .i64 a.s.q.fk, .int .u8 a.s.q.fi, .int .u8 a.s.q.fr, .int .u8 a.s.q.fg, .int .u8 a.s.q.fb, .int .i64 a.s.q.bk, .int .u8 a.s.q.bi, .int .u8 a.s.q.br, .int .u8 a.s.q.bg, .int .u8 a.s.q.bb, .int .u8 a.s.q.fl, .bool a.s.org, .int .i64 a.s.s0, .int .i64 a.s.s1, .int .i64 a.s.act, .int .i64 a.q.fk, .int .u8 a.q.fi, .int .u8 a.q.fr, .int .u8 a.q.fg, .int .u8 a.q.fb, .int .i64 a.q.bk, .int .u8 a.q.bi, .int .u8 a.q.br, .int .u8 a.q.bg, .int .u8 a.q.bb, .int .u8 a.q.fl, .slice a.A a.L.length a.c]
@[go_sem] theorem av24_size (a : Act24) : (av24 a).size = 50 := by simp [av24]
theorem av24_all (a : Act24) : (av24 a).all (·.oneCell') = true := by simp [av24, Value.oneCell']
@[simp high, go_sem high] theorem av24_get0 (a : Act24) : (av24 a)[0]? = some (.int .i64 a.what) := by simp [av24]
@[simp high, go_sem high] theorem av24_get1 (a : Act24) : (av24 a)[1]? = some (.int .i64 a.n) := by simp [av24]
@[simp high, go_sem high] theorem av24_get2 (a : Act24) : (av24 a)[2]? = some (.int .i64 a.row) := by simp [av24]
@[simp high, go_sem high] theorem av24_get3 (a : Act24) : (av24 a)[3]? = some (.int .i64 a.col) := by simp [av24]
@[simp high, go_sem high] theorem av24_get8 (a : Act24) : (av24 a)[8]? = some (.int .i64 a.x.width) := by simp [av24]
@[simp high, go_sem high] theorem av24_get49 (a : Act24) : (av24 a)[49]? = some (.slice a.A a.L.length a.c) := by simp [av24]
theorem av24_put {w : World} {b o : Nat} {a : Act24} (h : w.rangeAt b o (av24 a).toList) : recAt w b (o + 2) 18 = some (pw a.row a.col a.x) := recAt_of (pw_size _ _ _) fun j v hv => by
 have hj : j < 18 := by have := (List.getElem?_eq_some_iff.1 hv).1; simpa [pw] using this
 have := h (2 + j) v (by rw [← hv, ← List.getElem?_drop]; rw [show ((av24 a).toList.drop 2)[j]? = (((av24 a).toList.drop 2).take 18)[j]? from by rw [List.getElem?_take, if_pos hj]]; rfl)
 rw [show o + 2 + j = o + (2 + j) by omega]; exact this
theorem av24_saved {w : World} {b o : Nat} {a : Act24} (h : w.rangeAt b o (av24 a).toList) : recAt w b (o + 20) 18 = some (sv a.s) := recAt_of (sv_size _) fun j v hv => by
 have hj : j < 18 := by have := (List.getElem?_eq_some_iff.1 hv).1; simpa [sv] using this
 have := h (20 + j) v (by rw [← hv, ← List.getElem?_drop]; rw [show ((av24 a).toList.drop 20)[j]? = (((av24 a).toList.drop 20).take 18)[j]? from by rw [List.getElem?_take, if_pos hj]]; rfl)
 rw [show o + 20 + j = o + (20 + j) by omega]; exact this
theorem av24_pen {w : World} {b o : Nat} {a : Act24} (h : w.rangeAt b o (av24 a).toList) : penAt w b (o + 38) = some a.q := penAt_of fun j v hv => by
 have hj : j < 11 := by have := (List.getElem?_eq_some_iff.1 hv).1; simpa [pv] using this
 have := h (38 + j) v (by rw [← hv, ← List.getElem?_drop]; rw [show ((av24 a).toList.drop 38)[j]? = (((av24 a).toList.drop 38).take 11)[j]? from by rw [List.getElem?_take, if_pos hj]]; rfl)
 rw [show o + 38 + j = o + (38 + j) by omega]; exact this
theorem Blk.act24 {w : World} {g : Nat} {t : TypeId} {a : Act24} (h : Blk w g t (av24 a)) : (∀ i, w.cell? ⟨g, i, none⟩ = (av24 a)[i]?) ∧ (∀ i, w.frozen? ⟨g, i, none⟩ = false) ∧ g < w.heap.size ∧ Proofs.YtdndoikgnohkkaaDoor.recAt w g 0 50 = some (av24 a) ∧ Proofs.YtdndoikgnohkkaaDoor.recAt w g 2 18 = some (pw a.row a.col a.x) ∧ Proofs.YtdndoikgnohkkaaDoor.recAt w g 20 18 = some (sv a.s) ∧ Proofs.YtdndoikgnohkkaaDoor.penAt w g 38 = some a.q :=
 ⟨h.cell, h.frozen, h.lt, h.recAt 50 (av24_size a), by have := av24_put h.range; simpa using this, by have := av24_saved h.range; simpa using this, by have := av24_pen h.range; simpa using this⟩
theorem act24_size : (Tryd.prog.info? 66).map (·.size) = some 50 := by kernel_rfl
@[go_sem] theorem store_av24_new {b : Nat} (w : World) (zs : Array Value) (c : Act24) (hb : b = w.heap.size) (hz : zs.size = 50) :
  (storeCells ⟨b, 0, none⟩ (av24 c).toList 0).run Tryd.prog (w.alloc (.cells zs 66)) = .ok () (w.alloc (.cells (av24 c) 66)) := by
 subst hb
 exact run_storeCells_new w 66 zs (av24 c) (by rw [act24_size]; rfl) hz (av24_all c)
theorem refFacts {w0 w : World} {os : List Ob} {k x : Nat} {s : Pr} (hS : Objs w0 w os) (hk : os[k]? = some (refO x s)) : ∃ m o, (∀ i, w.cell? ⟨x, i, none⟩ = (rpv m o s.mode (s.kept.getD saved0) s.kept.isSome)[i]?) ∧ (∀ i, w.frozen? ⟨x, i, none⟩ = false) ∧ x < w.heap.size := by
 obtain ⟨m, o, hO⟩ := (hS.lift hk).openRef
 obtain ⟨h1, h2, h3, -⟩ := (hO.box (k := 0) rfl).rpair
 exact ⟨m, o, h1, h2, h3⟩
end Go.Proofs.YtdndoikgnohkkaaDoor

namespace Go.Proofs.YtdndoikgnohkkaaDoor
open Go.RowKit

def entS (n : Int) (x : Saved) (q : Pen) (s : Pr) : Pr := if entE n x q s = 0 then entN n x q s else s
def lvSt (n : Int) (q : Pen) (s : Pr) : Pr := if lvE n q s = 0 then lvN n q s else s
theorem l24mode_is {n : Int} {b : Bool} (h : mode24 n = b) (w : World) : Calls Tryd.prog 55 #[.int .i64 n] w fun e w' => e = .returned (.bool b) ∧ w = w' := h ▸ l24mode_any n w
section
variable {w0 w : World} {os : List Ob} {p x : Nat} {s : Pr}
theorem l24inked_is {q : Pen} {b : Bool} (h : q.ok = b) (hT : Tabs w0) (hS : Objs w0 w os) : Calls Tryd.prog 56 #[.agg (pv q)] w fun e w' => e = .returned (.bool b) ∧ Objs w0 w' os := h ▸ l24inked_any q hT hS
theorem Enter_er {E : Int} (n : Int) (y : Saved) (q : Pen) (hE : entE n y q s = E) (h0 : ¬ E = 0) (hT : Tabs w0) (hS : Objs w0 w (pairO p s :: os)) :
  Calls Tryd.prog 9 #[.pointer (some ⟨p, 0, none⟩), .int .i64 n, .agg (sv y), .agg (pv q)] w fun e w' => e = .returned (.int .i64 E) ∧ Objs w0 w' (pairO p s :: os) := by
 have := Enter_no n y q hT hS (by rw [hE]; exact h0)
 rw [hE] at this
 exact this
theorem Leave_er {E : Int} (n : Int) (q : Pen) (hE : lvE n q s = E) (h0 : ¬ E = 0) (hT : Tabs w0) (hS : Objs w0 w (pairO p s :: os)) :
  Calls Tryd.prog 23 #[.pointer (some ⟨p, 0, none⟩), .int .i64 n, .agg (pv q)] w fun e w' => e = .returned (.tuple #[.agg (sv saved0), .bool false, .int .i64 E]) ∧ Objs w0 w' (pairO p s :: os) := by
 have := Leave_no n q hT hS (by rw [hE]; exact h0)
 rw [hE] at this
 exact this
theorem front_at {P : Program} {f : FuncId} {args : Array Value} {k : Nat} {o o' : Ob} {r : Value} {bs : List Ob} (hk : os[k]? = some o) (hS : Objs w0 w (bs ++ os)) (hc : ∀ os1, Objs w0 w (o :: os1) → Calls P f args w fun e w' => e = .returned r ∧ Objs w0 w' (o' :: os1)) :
  Calls P f args w fun e w' => e = .returned r ∧ Objs w0 w' (bs ++ os.set k o') := by
 have h := front_call hS (k := bs.length + k) (by rw [List.getElem?_append_right (by omega)]; simpa using hk) hc
 rw [List.set_append_right _ _ (by omega), Nat.add_sub_cancel_left] at h
 exact h
theorem rleave_at {P : Program} {f : FuncId} {args : Array Value} {k : Nat} {o o' : Ob} {r : Value} (hS : Objs w0 w os) (hk : os[k]? = some o)
  (hc : ∀ os1, Objs w0 w (o :: os1) → Calls P f args w fun e w' => e = .returned r ∧ Objs w0 w' (o' :: os1)) : Calls P f args w fun e w' => e = .returned r ∧ Objs w0 w' (os.set k o') := front_call hS hk hc
set_option maxRecDepth 100000 in
set_option maxHeartbeats 32000000 in
theorem does24_enter {rr : Nat} (a : Act24) (hw : a.what = 1) (hT : Tabs w0) (hS : Objs w0 w (pairO p s :: refO x s :: os)) (hg : s.good rr) :
  Calls Tryd.prog 32 #[.pointer (some ⟨p, 0, none⟩), .pointer (some ⟨x, 0, none⟩), .agg (av24 a)] w fun e w' => e = .returned (.bool true) ∧ Objs w0 w' (pairO p (entS a.n a.s a.q s) :: refO x (entS a.n a.s a.q s) :: os) := by
 have S := Lib.hid hS
 have HT := Lib.hid hT
 have HG := Lib.hid hg
 clear hS hT hg
 have b0 := beq_no (show ¬ a.what = 0 by omega)
 have b1 := beq_yes hw
 clear hw
 unfold entS
 rcases ent_cases a.n a.s a.q s with ⟨h1, hE⟩ | ⟨h1, h2, h3, hE⟩ | ⟨h1, h2, h3, h4, hE⟩ | ⟨h1, h2, h3, h4, h5, hE⟩ | ⟨h1, h2, h5, hE⟩ | ⟨h1, h2, h3, h4, h5, hE⟩ | ⟨h1, h2, h5, hE⟩
 case' inl => have H1 := Lib.hid h1; clear h1
 case' inr.inl => have H1 := Lib.hid h1; have b2 := beq_yes h2; have H3 := Lib.hid h3; clear h1 h2 h3
 case' inr.inr.inl => have H1 := Lib.hid h1; have b2 := beq_yes h2; have H3 := Lib.hid h3; have H4 := Lib.hid h4; clear h1 h2 h3 h4
 case' inr.inr.inr.inl => have H1 := Lib.hid h1; have b2 := beq_yes h2; have H3 := Lib.hid h3; have H4 := Lib.hid h4; have bm := bne_yes h5; clear h1 h2 h3 h4 h5
 case' inr.inr.inr.inr.inl => have H1 := Lib.hid h1; have b2 := beq_no h2; have bm := bne_yes h5; clear h1 h2 h5
 case' inr.inr.inr.inr.inr.inl => have H1 := Lib.hid h1; have b2 := beq_yes h2; have H3 := Lib.hid h3; have H4 := Lib.hid h4; have bm := bne_no h5; clear h1 h2 h3 h4 h5
 case' inr.inr.inr.inr.inr.inr => have H1 := Lib.hid h1; have b2 := beq_no h2; have bm := bne_no h5; clear h1 h2 h5
 all_goals
  have HE := Lib.hid hE
  rw [hE]
  clear hE
  first | rw [if_pos rfl] | rw [if_neg (by decide)]
  go_enter Tryd.func32, Tryd.ntmps32
  go_upto_region 1 with (fail)
  refine at_objsC (S.out.alloc1 (c1 := av24 a) (t1 := 66)) (fun W hW => ?_)
  generalize w.heap.size = b5 at hW ⊢
  have S1 := Lib.hid hW
  clear hW S
  obtain ⟨hx5, hf5, hz5, hr5, hp5, hs5, hq5⟩ := (S1.out.box (k := 0) rfl).act24
  obtain ⟨mr, ro, hxx, hfx, hzx⟩ := refFacts S1.out (k := 2) rfl
  go_wp2_with fail
  refine (l24mode_is H1.out _).mono ?_
  rintro e w1 ⟨rfl, rfl⟩
  go_wp2_with fail
 ·refine (front_call S1.out (k := 2) rfl (fun os1 h => rEnter_front a.n a.s a.q h HG.out)).mono ?_
  rintro e w5 ⟨rfl, hS⟩
  clear hx5 hf5 hz5 hr5 hp5 hs5 hq5 hxx hfx hzx
  have S8 := Lib.hid hS
  clear hS S1
  obtain ⟨hx5, hf5, hz5, hr5, hp5, hs5, hq5⟩ := (S8.out.box (k := 0) rfl).act24
  obtain ⟨mr, ro, hxx, hfx, hzx⟩ := refFacts S8.out (k := 2) rfl
  go_wp2_with fail
  refine (front_call S8.out (k := 1) rfl (fun os1 h => Enter_yes a.n a.s a.q HT.out h HG.out HE.out)).mono ?_
  rintro e w6 ⟨rfl, hS⟩
  clear hx5 hf5 hz5 hr5 hp5 hs5 hq5 hxx hfx hzx
  have S9 := Lib.hid hS
  clear hS S8
  go_wp2_with fail
  go_ret
  exact ⟨rfl, S9.out.tail⟩
 ·refine (savedValid_is H3.out S1.out).mono ?_
  rintro e w2 ⟨rfl, hS⟩
  clear hx5 hf5 hz5 hr5 hp5 hs5 hq5 hxx hfx hzx
  have S2 := Lib.hid hS
  clear hS S1
  obtain ⟨hx5, hf5, hz5, hr5, hp5, hs5, hq5⟩ := (S2.out.box (k := 0) rfl).act24
  obtain ⟨mr, ro, hxx, hfx, hzx⟩ := refFacts S2.out (k := 2) rfl
  go_wp2_with fail
  refine (l24inked_is H4.out HT.out S2.out).mono ?_
  rintro e w3 ⟨rfl, hS⟩
  clear hx5 hf5 hz5 hr5 hp5 hs5 hq5 hxx hfx hzx
  have S3 := Lib.hid hS
  clear hS S2
  obtain ⟨hx5, hf5, hz5, hr5, hp5, hs5, hq5⟩ := (S3.out.box (k := 0) rfl).act24
  obtain ⟨mr, ro, hxx, hfx, hzx⟩ := refFacts S3.out (k := 2) rfl
  go_wp2_with fail
  refine (front_call S3.out (k := 2) rfl (fun os1 h => rEnter_front a.n a.s a.q h HG.out)).mono ?_
  rintro e w5 ⟨rfl, hS⟩
  clear hx5 hf5 hz5 hr5 hp5 hs5 hq5 hxx hfx hzx
  have S8 := Lib.hid hS
  clear hS S3
  obtain ⟨hx5, hf5, hz5, hr5, hp5, hs5, hq5⟩ := (S8.out.box (k := 0) rfl).act24
  obtain ⟨mr, ro, hxx, hfx, hzx⟩ := refFacts S8.out (k := 2) rfl
  go_wp2_with fail
  refine (front_call S8.out (k := 1) rfl (fun os1 h => Enter_yes a.n a.s a.q HT.out h HG.out HE.out)).mono ?_
  rintro e w6 ⟨rfl, hS⟩
  clear hx5 hf5 hz5 hr5 hp5 hs5 hq5 hxx hfx hzx
  have S9 := Lib.hid hS
  clear hS S8
  go_wp2_with fail
  go_ret
  exact ⟨rfl, S9.out.tail⟩
 ·refine (front_call S1.out (k := 1) rfl (fun os1 h => Enter_er a.n a.s a.q HE.out (by decide) HT.out h)).mono ?_
  rintro e w4 ⟨rfl, hS⟩
  clear hx5 hf5 hz5 hr5 hp5 hs5 hq5 hxx hfx hzx
  have S2 := Lib.hid hS
  clear hS S1
  go_wp2_with fail
  go_ret
  exact ⟨rfl, S2.out.tail⟩
 ·refine (savedValid_is H3.out S1.out).mono ?_
  rintro e w2 ⟨rfl, hS⟩
  clear hx5 hf5 hz5 hr5 hp5 hs5 hq5 hxx hfx hzx
  have S2 := Lib.hid hS
  clear hS S1
  obtain ⟨hx5, hf5, hz5, hr5, hp5, hs5, hq5⟩ := (S2.out.box (k := 0) rfl).act24
  obtain ⟨mr, ro, hxx, hfx, hzx⟩ := refFacts S2.out (k := 2) rfl
  go_wp2_with fail
  refine (l24inked_is H4.out HT.out S2.out).mono ?_
  rintro e w3 ⟨rfl, hS⟩
  clear hx5 hf5 hz5 hr5 hp5 hs5 hq5 hxx hfx hzx
  have S3 := Lib.hid hS
  clear hS S2
  obtain ⟨hx5, hf5, hz5, hr5, hp5, hs5, hq5⟩ := (S3.out.box (k := 0) rfl).act24
  obtain ⟨mr, ro, hxx, hfx, hzx⟩ := refFacts S3.out (k := 2) rfl
  go_wp2_with fail
  refine (front_call S3.out (k := 1) rfl (fun os1 h => Enter_er a.n a.s a.q HE.out (by decide) HT.out h)).mono ?_
  rintro e w4 ⟨rfl, hS⟩
  clear hx5 hf5 hz5 hr5 hp5 hs5 hq5 hxx hfx hzx
  have S4 := Lib.hid hS
  clear hS S3
  go_wp2_with fail
  go_ret
  exact ⟨rfl, S4.out.tail⟩
 ·refine (savedValid_is H3.out S1.out).mono ?_
  rintro e w2 ⟨rfl, hS⟩
  clear hx5 hf5 hz5 hr5 hp5 hs5 hq5 hxx hfx hzx
  have S2 := Lib.hid hS
  clear hS S1
  obtain ⟨hx5, hf5, hz5, hr5, hp5, hs5, hq5⟩ := (S2.out.box (k := 0) rfl).act24
  obtain ⟨mr, ro, hxx, hfx, hzx⟩ := refFacts S2.out (k := 2) rfl
  go_wp2_with fail
  refine (l24inked_is H4.out HT.out S2.out).mono ?_
  rintro e w3 ⟨rfl, hS⟩
  clear hx5 hf5 hz5 hr5 hp5 hs5 hq5 hxx hfx hzx
  have S3 := Lib.hid hS
  clear hS S2
  obtain ⟨hx5, hf5, hz5, hr5, hp5, hs5, hq5⟩ := (S3.out.box (k := 0) rfl).act24
  obtain ⟨mr, ro, hxx, hfx, hzx⟩ := refFacts S3.out (k := 2) rfl
  go_wp2_with fail
  refine (front_call S3.out (k := 1) rfl (fun os1 h => Enter_er a.n a.s a.q HE.out (by decide) HT.out h)).mono ?_
  rintro e w4 ⟨rfl, hS⟩
  clear hx5 hf5 hz5 hr5 hp5 hs5 hq5 hxx hfx hzx
  have S4 := Lib.hid hS
  clear hS S3
  go_wp2_with fail
  go_ret
  exact ⟨rfl, S4.out.tail⟩
 ·refine (savedValid_is H3.out S1.out).mono ?_
  rintro e w2 ⟨rfl, hS⟩
  clear hx5 hf5 hz5 hr5 hp5 hs5 hq5 hxx hfx hzx
  have S2 := Lib.hid hS
  clear hS S1
  obtain ⟨hx5, hf5, hz5, hr5, hp5, hs5, hq5⟩ := (S2.out.box (k := 0) rfl).act24
  obtain ⟨mr, ro, hxx, hfx, hzx⟩ := refFacts S2.out (k := 2) rfl
  go_wp2_with fail
  refine (front_call S2.out (k := 1) rfl (fun os1 h => Enter_er a.n a.s a.q HE.out (by decide) HT.out h)).mono ?_
  rintro e w4 ⟨rfl, hS⟩
  clear hx5 hf5 hz5 hr5 hp5 hs5 hq5 hxx hfx hzx
  have S3 := Lib.hid hS
  clear hS S2
  go_wp2_with fail
  go_ret
  exact ⟨rfl, S3.out.tail⟩
 ·refine (front_call S1.out (k := 1) rfl (fun os1 h => Enter_er a.n a.s a.q HE.out (by decide) HT.out h)).mono ?_
  rintro e w4 ⟨rfl, hS⟩
  clear hx5 hf5 hz5 hr5 hp5 hs5 hq5 hxx hfx hzx
  have S2 := Lib.hid hS
  clear hS S1
  go_wp2_with fail
  go_ret
  exact ⟨rfl, S2.out.tail⟩
set_option maxRecDepth 100000 in
set_option maxHeartbeats 32000000 in
theorem does24_leave {rr : Nat} (a : Act24) (hw : a.what = 2) (hT : Tabs w0) (hS : Objs w0 w (pairO p s :: refO x s :: os)) (hg : s.good rr) :
  Calls Tryd.prog 32 #[.pointer (some ⟨p, 0, none⟩), .pointer (some ⟨x, 0, none⟩), .agg (av24 a)] w fun e w' => e = .returned (.bool true) ∧ Objs w0 w' (pairO p (lvSt a.n a.q s) :: refO x (lvSt a.n a.q s) :: os) := by
 have S := Lib.hid hS
 have HT := Lib.hid hT
 have HG := Lib.hid hg
 clear hS hT hg
 have b0 := beq_no (show ¬ a.what = 0 by omega)
 have b1 := beq_no (show ¬ a.what = 1 by omega)
 have b2 := beq_yes hw
 clear hw
 unfold lvSt
 rcases lv_cases a.n a.q s with ⟨h1, hE⟩ | ⟨h1, h2, h4, hE⟩ | ⟨h1, h2, h4, h5, hE⟩ | ⟨h1, h2, h5, hE⟩ | ⟨h1, h2, h4, h5, hE⟩ | ⟨h1, h2, h3, h5, hE⟩ | ⟨h1, h2, h3, h5, hE⟩
 case' inl => have H1 := Lib.hid h1; clear h1
 case' inr.inl => have H1 := Lib.hid h1; have b3 := beq_yes h2; have H4 := Lib.hid h4; clear h1 h2 h4
 case' inr.inr.inl => have H1 := Lib.hid h1; have b3 := beq_yes h2; have H4 := Lib.hid h4; have bm := beq_yes h5; clear h1 h2 h4 h5
 case' inr.inr.inr.inl => have H1 := Lib.hid h1; have b3 := beq_no h2; have bm := beq_yes h5; clear h1 h2 h5
 case' inr.inr.inr.inr.inl => have H1 := Lib.hid h1; have b3 := beq_yes h2; have H4 := Lib.hid h4; have bm := beq_no h5; clear h1 h2 h4 h5
 case' inr.inr.inr.inr.inr.inl => have H1 := Lib.hid h1; have b3 := beq_no h2; have bm := beq_no h5; clear h1 h2 h3 h5
 case' inr.inr.inr.inr.inr.inr => have H1 := Lib.hid h1; have b3 := beq_no h2; have bm := beq_no h5; clear h1 h2 h3 h5
 all_goals
  have HE := Lib.hid hE
  rw [hE]
  clear hE
  first | rw [if_pos rfl] | rw [if_neg (by decide)]
  go_enter Tryd.func32, Tryd.ntmps32
  go_upto_region 1 with (fail)
  refine at_objsC (S.out.alloc1 (c1 := av24 a) (t1 := 66)) (fun W hW => ?_)
  generalize w.heap.size = b5 at hW ⊢
  have S1 := Lib.hid hW
  clear hW S
  obtain ⟨hx5, hf5, hz5, hr5, hp5, hs5, hq5⟩ := (S1.out.box (k := 0) rfl).act24
  obtain ⟨mr, ro, hxx, hfx, hzx⟩ := refFacts S1.out (k := 2) rfl
  go_wp2_with fail
  refine (l24mode_is H1.out _).mono ?_
  rintro e w1 ⟨rfl, rfl⟩
  go_wp2_with fail
 ·refine (rleave_at S1.out (k := 2) rfl (fun os1 h => rLeave_front a.n a.q h HG.out)).mono ?_
  rintro e w5 ⟨rfl, hS⟩
  clear hx5 hf5 hz5 hr5 hp5 hs5 hq5 hxx hfx hzx
  have S7 := Lib.hid hS
  clear hS S1
  go_upto_region 25 with (fail)
  refine at_objsC (S7.out.alloc1 (c1 := sv ((lvS a.n s).getD saved0)) (t1 := 35)) (fun W8 hW => ?_)
  generalize w5.heap.size = b10 at hW ⊢
  have S8 := Lib.hid hW
  clear hW S7
  obtain ⟨hx5, hf5, hz5, hr5, hp5, hs5, hq5⟩ := (S8.out.box (k := 1) rfl).act24
  obtain ⟨hx10, hf10, hz10, hr10, hp10⟩ := (S8.out.box (k := 0) rfl).saved
  go_wp2_with fail
  refine (leaves_true S8.out (fun bs W h => by have h := front_at (k := 2) (bs := bs) rfl h (fun os1 h => Leave_yes a.n a.q HT.out h HG.out HE.out); exact h)).mono ?_
  rintro e w6 ⟨rfl, hS⟩
  clear hx5 hf5 hz5 hr5 hp5 hs5 hq5 hx10 hf10 hz10 hr10 hp10
  have S9 := Lib.hid hS
  clear hS S8
  go_wp2_with fail
  go_ret
  exact ⟨rfl, S9.out.tail.tail⟩
 ·refine (rleave_at S1.out (k := 2) rfl (fun os1 h => rLeave_front a.n a.q h HG.out)).mono ?_
  rintro e w5 ⟨rfl, hS⟩
  clear hx5 hf5 hz5 hr5 hp5 hs5 hq5 hxx hfx hzx
  have S7 := Lib.hid hS
  clear hS S1
  go_upto_region 25 with (fail)
  refine at_objsC (S7.out.alloc1 (c1 := sv ((lvS a.n s).getD saved0)) (t1 := 35)) (fun W8 hW => ?_)
  generalize w5.heap.size = b10 at hW ⊢
  have S8 := Lib.hid hW
  clear hW S7
  obtain ⟨hx5, hf5, hz5, hr5, hp5, hs5, hq5⟩ := (S8.out.box (k := 1) rfl).act24
  obtain ⟨hx10, hf10, hz10, hr10, hp10⟩ := (S8.out.box (k := 0) rfl).saved
  go_wp2_with fail
  refine (leaves_true S8.out (fun bs W h => by have h := front_at (k := 2) (bs := bs) rfl h (fun os1 h => Leave_yes a.n a.q HT.out h HG.out HE.out); exact h)).mono ?_
  rintro e w6 ⟨rfl, hS⟩
  clear hx5 hf5 hz5 hr5 hp5 hs5 hq5 hx10 hf10 hz10 hr10 hp10
  have S9 := Lib.hid hS
  clear hS S8
  go_wp2_with fail
  go_ret
  exact ⟨rfl, S9.out.tail.tail⟩
 ·refine (l24inked_is H4.out HT.out S1.out).mono ?_
  rintro e w3 ⟨rfl, hS⟩
  clear hx5 hf5 hz5 hr5 hp5 hs5 hq5 hxx hfx hzx
  have S2 := Lib.hid hS
  clear hS S1
  obtain ⟨hx5, hf5, hz5, hr5, hp5, hs5, hq5⟩ := (S2.out.box (k := 0) rfl).act24
  obtain ⟨mr, ro, hxx, hfx, hzx⟩ := refFacts S2.out (k := 2) rfl
  go_wp2_with fail
  refine (rleave_at S2.out (k := 2) rfl (fun os1 h => rLeave_front a.n a.q h HG.out)).mono ?_
  rintro e w5 ⟨rfl, hS⟩
  clear hx5 hf5 hz5 hr5 hp5 hs5 hq5 hxx hfx hzx
  have S7 := Lib.hid hS
  clear hS S2
  go_upto_region 25 with (fail)
  refine at_objsC (S7.out.alloc1 (c1 := sv ((lvS a.n s).getD saved0)) (t1 := 35)) (fun W8 hW => ?_)
  generalize w5.heap.size = b10 at hW ⊢
  have S8 := Lib.hid hW
  clear hW S7
  obtain ⟨hx5, hf5, hz5, hr5, hp5, hs5, hq5⟩ := (S8.out.box (k := 1) rfl).act24
  obtain ⟨hx10, hf10, hz10, hr10, hp10⟩ := (S8.out.box (k := 0) rfl).saved
  go_wp2_with fail
  refine (leaves_true S8.out (fun bs W h => by have h := front_at (k := 2) (bs := bs) rfl h (fun os1 h => Leave_yes a.n a.q HT.out h HG.out HE.out); exact h)).mono ?_
  rintro e w6 ⟨rfl, hS⟩
  clear hx5 hf5 hz5 hr5 hp5 hs5 hq5 hx10 hf10 hz10 hr10 hp10
  have S9 := Lib.hid hS
  clear hS S8
  go_wp2_with fail
  go_ret
  exact ⟨rfl, S9.out.tail.tail⟩
 ·refine (leaves_true S1.out (fun bs W h => by have h := front_at (k := 1) (bs := bs) rfl h (fun os1 h => Leave_er a.n a.q HE.out (by decide) HT.out h); exact h)).mono ?_
  rintro e w4 ⟨rfl, hS⟩
  clear hx5 hf5 hz5 hr5 hp5 hs5 hq5 hxx hfx hzx
  have S2 := Lib.hid hS
  clear hS S1
  go_wp2_with fail
  go_ret
  exact ⟨rfl, S2.out.tail⟩
 ·refine (l24inked_is H4.out HT.out S1.out).mono ?_
  rintro e w3 ⟨rfl, hS⟩
  clear hx5 hf5 hz5 hr5 hp5 hs5 hq5 hxx hfx hzx
  have S2 := Lib.hid hS
  clear hS S1
  obtain ⟨hx5, hf5, hz5, hr5, hp5, hs5, hq5⟩ := (S2.out.box (k := 0) rfl).act24
  obtain ⟨mr, ro, hxx, hfx, hzx⟩ := refFacts S2.out (k := 2) rfl
  go_wp2_with fail
  refine (leaves_true S2.out (fun bs W h => by have h := front_at (k := 1) (bs := bs) rfl h (fun os1 h => Leave_er a.n a.q HE.out (by decide) HT.out h); exact h)).mono ?_
  rintro e w4 ⟨rfl, hS⟩
  clear hx5 hf5 hz5 hr5 hp5 hs5 hq5 hxx hfx hzx
  have S3 := Lib.hid hS
  clear hS S2
  go_wp2_with fail
  go_ret
  exact ⟨rfl, S3.out.tail⟩
 ·refine (l24inked_is H4.out HT.out S1.out).mono ?_
  rintro e w3 ⟨rfl, hS⟩
  clear hx5 hf5 hz5 hr5 hp5 hs5 hq5 hxx hfx hzx
  have S2 := Lib.hid hS
  clear hS S1
  obtain ⟨hx5, hf5, hz5, hr5, hp5, hs5, hq5⟩ := (S2.out.box (k := 0) rfl).act24
  obtain ⟨mr, ro, hxx, hfx, hzx⟩ := refFacts S2.out (k := 2) rfl
  go_wp2_with fail
  refine (leaves_true S2.out (fun bs W h => by have h := front_at (k := 1) (bs := bs) rfl h (fun os1 h => Leave_er a.n a.q HE.out (by decide) HT.out h); exact h)).mono ?_
  rintro e w4 ⟨rfl, hS⟩
  clear hx5 hf5 hz5 hr5 hp5 hs5 hq5 hxx hfx hzx
  have S3 := Lib.hid hS
  clear hS S2
  go_wp2_with fail
  go_ret
  exact ⟨rfl, S3.out.tail⟩
 ·refine (leaves_true S1.out (fun bs W h => by have h := front_at (k := 1) (bs := bs) rfl h (fun os1 h => Leave_er a.n a.q HE.out (by decide) HT.out h); exact h)).mono ?_
  rintro e w4 ⟨rfl, hS⟩
  clear hx5 hf5 hz5 hr5 hp5 hs5 hq5 hxx hfx hzx
  have S2 := Lib.hid hS
  clear hS S1
  go_wp2_with fail
  go_ret
  exact ⟨rfl, S2.out.tail⟩
end
end Go.Proofs.YtdndoikgnohkkaaDoor

set_option linter.constructorNameAsVariable false
set_option maxRecDepth 100000
namespace Go.Proofs.YtdndoikgnohkkaaDoor
open Go.ChangeShapes Go.WideShapes Go.ChangeAt Go.RowKit Go.Deep Go.WideElems

section
variable {H : Type} {enc : TypeId × Value → H}

theorem trodAll_below {P : Program} (hl : laidOutB P = true) {W W' : World} (hb : Below W.heap.size W W') {sp : Nat → Bool} : ∀ (ts : List TypeId) (vs : List Value) (ds : List (DataW H)) (ps : List MemPlace), (∀ t ∈ ts, P.readableRec t = true ∧ t < P.types.size) →
  DataW.TrodAll enc P W 0 (fun _ => true) true ts vs ds ps → (∀ x ∈ ps, x.block < W.heap.size) → (∀ x ∈ ps, sp x.block = true) → DataW.TrodAll enc P W' 0 sp true ts vs ds ps
 | [], [], [], ps, _, h, _, _ => h
 | t :: ts, v :: vs, d :: ds, ps, ht, h, hlt, hs => by
  obtain ⟨p, q, h1, h2, rfl⟩ := h
  exact ⟨p, q, Trod_stays hl (ht t (by simp)).1 (ht t (by simp)).2 h1 (fun x hx => hb.same (hlt x (by simp [hx]))) (fun x hx => hs x (by simp [hx])),
   trodAll_below hl hb ts vs ds q (fun u hu => ht u (by simp [hu])) h2 (fun x hx => hlt x (by simp [hx])) (fun x hx => hs x (by simp [hx])), rfl⟩
 | [], _ :: _, _, _, _, h, _, _ => by cases h
 | [], [], _ :: _, _, _, h, _, _ => by cases h
 | _ :: _, [], _, _, _, h, _, _ => by cases h
 | _ :: _, _ :: _, [], _, _, h, _, _ => by cases h

theorem law_post {P : Program} {f : Func} {s : ChangeSpec} {W W' : World} {args : Array Value} {ds gs : List (DataW H)} {before : List MemPlace} {tb : TypeId} (hv : s.vars = []) (hl : laidOutB P = true)
  (hW : DataW.Whole enc P f.params.toList s.vars false W args.toList ds gs before) (hpar : ∀ t ∈ f.params.toList, P.readableRec t = true ∧ t < P.types.size)
  (hfn : gs = [] → (s.fn H (ds ++ gs)).results = [.lit (.bool true)] ∧ (s.fn H (ds ++ gs)).args = ds ∧ (s.fn H (ds ++ gs)).vars = []) (hr : f.resultTypes = #[tb]) (htb : P.underlying tb = some .bool) (hb : Below W.heap.size W W') :
  s.post enc P f false true false false W args (.bool true) W' := by
 have hlt : ∀ p ∈ before, p.block < W.heap.size := fun p hp => hW.lt p hp
 have hW' := hW
 obtain ⟨p, q, hA, hV, rfl, hfz, hnd⟩ := hW
 rw [hv] at hV
 obtain ⟨rfl, rfl⟩ := trodVars_none hV
 obtain ⟨f1, f2, f3⟩ := hfn rfl
 have hargs : ∀ sp : Nat → Bool, (∀ x ∈ p, sp x.block = true) → DataW.TrodAll enc P W' 0 sp true f.params.toList args.toList (s.fn H (ds ++ [])).args p := fun sp hs => by
  rw [f2]; exact trodAll_below hl hb _ _ _ _ hpar hA (fun x hx => hlt x (by simp [hx])) hs
 have hres : ∀ (b : Nat) (sp : Nat → Bool) (hd : Bool), DataW.TrodAll enc P W' b sp hd f.resultTypes.toList ((Value.bool true).resultList f.resultTypes.size) (s.fn H (ds ++ [])).results [] := fun b sp hd => by
  rw [f1, hr]; exact trodAll_cons_mk (shut_bool htb _) trodAll_mk0
 have hvars : ∀ sp : Nat → Bool, DataW.TrodVars enc P W' sp s.vars (s.fn H (ds ++ [])).vars [] := fun sp => by rw [hv, f3]; rfl
 have hold : ∀ x ∈ p, (fun b => decide (b < W.heap.size)) x.block = true := fun x hx => by simpa using hlt x (by simp [hx])
 refine ⟨ds, [], p ++ [], [], p, [], hW', hres _ _ _, hargs _ hold, hvars _, World.keptBut_mono (fun x hx => ⟨hx, ?_⟩) (hb.frame (· ∈ p ++ [])), fun h => by cases h⟩
 exact Or.inr (by simpa using hx)

section
variable {w : World} {base : Nat} {sp : Nat → Bool} {hd : Bool} {fuel : Nat} {cs : List Value} {x : DataW H × List MemPlace}
theorem cells_color : Tryd.prog.cellsOf 26 = 5 := by kernel_rfl
theorem cells_pen : Tryd.prog.cellsOf 29 = 11 := by kernel_rfl
theorem cells_i32 : Tryd.prog.cellsOf 21 = 1 := by kernel_rfl
theorem cells_int : Tryd.prog.cellsOf 3 = 1 := by kernel_rfl
theorem cells_u8 : Tryd.prog.cellsOf 5 = 1 := by kernel_rfl
theorem cells_kind : Tryd.prog.cellsOf 24 = 1 := by kernel_rfl
theorem cells_flags : Tryd.prog.cellsOf 27 = 1 := by kernel_rfl
theorem num_field {P : Program} {t : TypeId} {k : IntKind} {c : Value} {y : Option (DataW H × List MemPlace)} (ht : P.underlying t = some (.int k)) (hy : y.isSome = true) (h : DataW.trod enc P w base sp hd fuel t [c] = y) : ∃ n, c = .int k n := by
 obtain ⟨z, hz⟩ := Option.isSome_iff_exists.1 hy
 obtain ⟨n, hn, _⟩ := DataW.trod_int ht (h.trans hz)
 exact ⟨n, by simpa using hn⟩
theorem trod_color (h : DataW.trod enc Tryd.prog w base sp hd fuel 26 cs = some x) : ∃ k i r g b, cs = [.int .i64 k, .int .u8 i, .int .u8 r, .int .u8 g, .int .u8 b] := by
 obtain ⟨xs, n, _, _, hlen, hxl, hf⟩ := DataW.trod_struct Tryd.underlying26 h
 rw [cells_color] at hlen
 match cs, hlen, hf with
 | [c0, c1, c2, c3, c4], _, hf =>
  have h0 : DataW.trod enc Tryd.prog w base sp hd n 24 (([c0, c1, c2, c3, c4].drop 0).take (Tryd.prog.cellsOf 24)) = xs[0]? := hf 0 _ rfl
  have h1 : DataW.trod enc Tryd.prog w base sp hd n 5 (([c0, c1, c2, c3, c4].drop 1).take (Tryd.prog.cellsOf 5)) = xs[1]? := hf 1 _ rfl
  have h2 : DataW.trod enc Tryd.prog w base sp hd n 5 (([c0, c1, c2, c3, c4].drop 2).take (Tryd.prog.cellsOf 5)) = xs[2]? := hf 2 _ rfl
  have h3 : DataW.trod enc Tryd.prog w base sp hd n 5 (([c0, c1, c2, c3, c4].drop 3).take (Tryd.prog.cellsOf 5)) = xs[3]? := hf 3 _ rfl
  have h4 : DataW.trod enc Tryd.prog w base sp hd n 5 (([c0, c1, c2, c3, c4].drop 4).take (Tryd.prog.cellsOf 5)) = xs[4]? := hf 4 _ rfl
  simp only [cells_kind, cells_u8, List.drop_zero, List.drop_succ_cons, List.take_succ_cons, List.take_zero] at h0 h1 h2 h3 h4
  obtain ⟨k, rfl⟩ := num_field Tryd.underlying24 (by simp [hxl]) h0
  obtain ⟨i, rfl⟩ := num_field Tryd.underlying5 (by simp [hxl]) h1
  obtain ⟨r, rfl⟩ := num_field Tryd.underlying5 (by simp [hxl]) h2
  obtain ⟨g, rfl⟩ := num_field Tryd.underlying5 (by simp [hxl]) h3
  obtain ⟨b, rfl⟩ := num_field Tryd.underlying5 (by simp [hxl]) h4
  exact ⟨k, i, r, g, b, rfl⟩
theorem some_of {α : Type} {y : Option α} (h : y.isSome = true) : ∃ z, y = some z := Option.isSome_iff_exists.1 h
theorem trod_pen (h : DataW.trod enc Tryd.prog w base sp hd fuel 29 cs = some x) : ∃ q : Pen, cs = (pv q).toList := by
 obtain ⟨xs, n, _, _, hlen, hxl, hf⟩ := DataW.trod_struct Tryd.underlying29 h
 rw [cells_pen] at hlen
 have h0 : DataW.trod enc Tryd.prog w base sp hd n 26 ((cs.drop 0).take (Tryd.prog.cellsOf 26)) = xs[0]? := hf 0 _ rfl
 have h1 : DataW.trod enc Tryd.prog w base sp hd n 26 ((cs.drop 5).take (Tryd.prog.cellsOf 26)) = xs[1]? := hf 1 _ rfl
 have h2 : DataW.trod enc Tryd.prog w base sp hd n 27 ((cs.drop 10).take (Tryd.prog.cellsOf 27)) = xs[2]? := hf 2 _ rfl
 obtain ⟨z0, e0⟩ := some_of (show (xs[0]?).isSome = true by simp [hxl])
 obtain ⟨z1, e1⟩ := some_of (show (xs[1]?).isSome = true by simp [hxl])
 simp only [cells_color, cells_flags] at h0 h1 h2
 obtain ⟨k, i, r, g, b, hc0⟩ := trod_color (h0.trans e0)
 obtain ⟨k', i', r', g', b', hc1⟩ := trod_color (h1.trans e1)
 match cs, hlen with
 | [c0, c1, c2, c3, c4, c5, c6, c7, c8, c9, c10], _ =>
  simp only [List.drop_zero, List.drop_succ_cons, List.take_succ_cons, List.take_zero] at h2 hc0 hc1
  obtain ⟨fl, rfl⟩ := num_field Tryd.underlying27 (by simp [hxl]) h2
  simp only [List.cons.injEq, and_true] at hc0 hc1
  obtain ⟨rfl, rfl, rfl, rfl, rfl⟩ := hc0
  obtain ⟨rfl, rfl, rfl, rfl, rfl⟩ := hc1
  exact ⟨⟨k, i, r, g, b, k', i', r', g', b', fl⟩, rfl⟩
end
theorem open_pen {v : Value} {w : World} {r : Reach} {b0 base : Nat} {sp : Nat → Bool} {hd : Bool} {d : DataW H} {p : List MemPlace} (hv : Value.okWide Tryd.prog w r b0 29 v) (h : DataW.Trod enc Tryd.prog w base sp hd 29 v d p) : ∃ q : Pen, v = .agg (pv q) := by
 obtain ⟨cs, rfl, _⟩ := okWide_struct Tryd.underlying29 hv
 obtain ⟨fuel, hf⟩ := h
 obtain ⟨q, hq⟩ := trod_pen hf
 exact ⟨q, by rw [show cs = pv q from by simpa [Value.cells] using hq]⟩
end
end Go.Proofs.YtdndoikgnohkkaaDoor

set_option linter.constructorNameAsVariable false
set_option maxRecDepth 100000
namespace Go.Proofs.YtdndoikgnohkkaaDoor
open Go.ChangeShapes Go.WideShapes Go.ChangeAt Go.RowKit Go.Deep Go.WideElems

section
variable {H : Type} {enc : TypeId × Value → H}
theorem cells_bool : Tryd.prog.cellsOf 4 = 1 := by kernel_rfl
end
end Go.Proofs.YtdndoikgnohkkaaDoor

set_option linter.constructorNameAsVariable false
set_option maxRecDepth 100000
namespace Go.Proofs.YtdndoikgnohkkaaDoor
open Go.ChangeShapes Go.WideShapes Go.ChangeAt Go.RowKit Go.Deep Go.WideElems

section
variable {H : Type} {enc : TypeId × Value → H}
theorem cells_cursor : Tryd.prog.cellsOf 23 = 3 := by kernel_rfl
theorem trod_cursor {w : World} {base : Nat} {sp : Nat → Bool} {fuel : Nat} {cs : List Value} {x : DataW H × List MemPlace} {hd : Bool} (h : DataW.trod enc Tryd.prog w base sp hd fuel 23 cs = some x) : ∃ r c b, cs = [.int .i64 r, .int .i64 c, .bool b] := by
 obtain ⟨xs, n, _, _, hlen, hxl, hf⟩ := DataW.trod_struct Tryd.underlying23 h
 rw [cells_cursor] at hlen
 match cs, hlen, hf with
 | [c0, c1, c2], _, hf =>
  have h0 : DataW.trod enc Tryd.prog w base sp hd n 3 (([c0, c1, c2].drop 0).take (Tryd.prog.cellsOf 3)) = xs[0]? := hf 0 _ rfl
  have h1 : DataW.trod enc Tryd.prog w base sp hd n 3 (([c0, c1, c2].drop 1).take (Tryd.prog.cellsOf 3)) = xs[1]? := hf 1 _ rfl
  have h2 : DataW.trod enc Tryd.prog w base sp hd n 4 (([c0, c1, c2].drop 2).take (Tryd.prog.cellsOf 4)) = xs[2]? := hf 2 _ rfl
  obtain ⟨z2, e2⟩ := some_of (show (xs[2]?).isSome = true by simp [hxl])
  simp only [cells_int, cells_bool, List.drop_zero, List.drop_succ_cons, List.take_succ_cons, List.take_zero] at h0 h1 h2
  obtain ⟨r, rfl⟩ := num_field Tryd.underlying3 (by simp [hxl]) h0
  obtain ⟨c, rfl⟩ := num_field Tryd.underlying3 (by simp [hxl]) h1
  obtain ⟨b, hb, _⟩ := DataW.trod_bool Tryd.underlying4 (h2.trans e2)
  simp only [List.cons.injEq, and_true] at hb
  subst hb
  exact ⟨r, c, b, rfl⟩
theorem trod_recs {V : Type} [Inhabited V] {Pr : V → Prop} {w : World} {fuel : Nat} {cs : List Value} {x : DataW H × List MemPlace} {hd : Bool} {tS tE : TypeId} {k : Nat} (av : V → Array Value) (hu : Tryd.prog.underlying tS = some (.slice tE)) (hk : Tryd.prog.cellsOf tE = k) (hk0 : 0 < k) (hav : ∀ a, (av a).size = k)
  (helem : ∀ (fuel : Nat) (cs' : List Value) (x' : DataW H × List MemPlace), DataW.trod enc Tryd.prog w 0 (fun _ => true) hd fuel tE cs' = some x' → ∃ a, cs' = (av a).toList ∧ Pr a)
  (h : DataW.trod enc Tryd.prog w 0 (fun _ => true) hd fuel tS cs = some x) : ∃ (A : Option Addr) (c : Nat) (l : List V), cs = [.slice A l.length c] ∧ RdRec w A c k (l.map av) ∧ c ≤ maxLen ∧ ∀ a ∈ l, Pr a := by
 rcases open_slice hu h with ⟨rfl, _⟩ | ⟨a, len, cap, m, n, D, Pl, rfl, _, hl, hm, hmm, _, hi⟩
 ·exact ⟨none, 0, [], rfl, ⟨by simp, fun _ => rfl, fun h => by simp at h⟩, by simp [maxLen], fun a ha => by simp at ha⟩
 ·simp only [if_true] at hmm
  subst hmm
  rw [hk] at hi
  have hall : ∀ i, i < len → ∃ c : V, Pr c ∧ ∀ j, j < k → w.cell? ((a.add (i * k)).add j) = (av c)[j]? := by
   intro i hlt
   obtain ⟨cs', hc, ht⟩ := hi i (by omega)
   obtain ⟨_, hcl, hat⟩ := World.cells?_some hc
   obtain ⟨c, rfl, hp⟩ := helem _ _ _ ht
   exact ⟨c, hp, fun j hj => by rw [hat j hj]; simp⟩
  have hl2 : ∃ l : List V, l.length = len ∧ (∀ i (h : i < l.length), ∀ j, j < k → w.cell? ((a.add (i * k)).add j) = (av l[i])[j]?) ∧ ∀ c ∈ l, Pr c := by
   refine ⟨(List.range len).map fun i => if h : i < len then (hall i h).choose else default, by simp, fun i h j hj => ?_, fun c hc => ?_⟩
   ·have hlt : i < len := by simpa using h
    simp only [List.getElem_map, List.getElem_range, hlt, dif_pos]
    exact (hall i hlt).choose_spec.2 j hj
   ·obtain ⟨i, hi2, rfl⟩ := List.mem_map.1 hc
    have hlt : i < len := by simpa using hi2
    rw [dif_pos hlt]
    exact (hall i hlt).choose_spec.1
  obtain ⟨l, rfl, hcell, hpr⟩ := hl2
  refine ⟨some a, m, l, rfl, ⟨by simpa using hl, (fun h => by cases h), fun hn => ?_⟩, hm, hpr⟩
  have hn' : 0 < l.length := by simpa using hn
  have h00 := hcell 0 hn' 0 hk0
  have hsz : 0 < (av l[0]).size := by rw [hav]; exact hk0
  rw [Nat.zero_mul, Addr.add_zero', Addr.add_zero', Array.getElem?_eq_getElem hsz] at h00
  obtain ⟨b, off, spot⟩ := a
  have hspot : spot = none := by
   cases spot with
   | none => rfl
   | some q => simp [World.cell?] at h00; split at h00 <;> simp at h00
  subst hspot
  refine ⟨b, off, rfl, block_lt_of_cell h00, fun i r hr => ?_⟩
  rw [List.getElem?_map] at hr
  cases hli : l[i]? with
  | none => rw [hli] at hr; cases hr
  | some y =>
   rw [hli] at hr
   simp only [Option.map_some, Option.some.injEq] at hr
   subst hr
   obtain ⟨hil, hy⟩ := List.getElem?_eq_some_iff.1 hli
   refine recAt_of (hav y) (fun j v hv => ?_)
   have hj : j < k := by have := (List.getElem?_eq_some_iff.1 hv).1; simp [hav] at this; exact this
   have := hcell i hil j hj
   rw [add_at, add_at] at this
   rw [this, hy]
   simpa using hv
theorem open_recs {V : Type} [Inhabited V] {Pr : V → Prop} {v : Value} {w : World} {r : Reach} {b0 : Nat} {hd : Bool} {d : DataW H} {p : List MemPlace} {tS tE : TypeId} {k : Nat} (av : V → Array Value) (hu : Tryd.prog.underlying tS = some (.slice tE)) (hk : Tryd.prog.cellsOf tE = k) (hk0 : 0 < k) (hav : ∀ a, (av a).size = k)
  (helem : ∀ (fuel : Nat) (cs' : List Value) (x' : DataW H × List MemPlace), DataW.trod enc Tryd.prog w 0 (fun _ => true) hd fuel tE cs' = some x' → ∃ a, cs' = (av a).toList ∧ Pr a)
  (hv : Value.okWide Tryd.prog w r b0 tS v) (h : DataW.Trod enc Tryd.prog w 0 (fun _ => true) hd tS v d p) : ∃ (A : Option Addr) (c : Nat) (l : List V), v = .slice A l.length c ∧ RdRec w A c k (l.map av) ∧ c ≤ maxLen ∧ ∀ a ∈ l, Pr a := by
 obtain ⟨a0, n, c, rfl⟩ := okWide_slice hu hv
 obtain ⟨fuel, hf⟩ := h
 obtain ⟨A, c', l, he, hr⟩ := trod_recs av hu hk hk0 hav helem hf
 exact ⟨A, c', l, by simpa [Value.cells] using he, hr⟩
end
end Go.Proofs.YtdndoikgnohkkaaDoor

set_option linter.constructorNameAsVariable false
set_option maxRecDepth 100000
namespace Go.Proofs.YtdndoikgnohkkaaDoor
open Go.ChangeShapes Go.WideShapes Go.ChangeAt Go.RowKit Go.Deep Go.WideElems

section
variable {H : Type} {enc : TypeId × Value → H}
end
end Go.Proofs.YtdndoikgnohkkaaDoor

set_option linter.constructorNameAsVariable false
set_option maxRecDepth 100000
namespace Go.Proofs.YtdndoikgnohkkaaDoor
open Go.ChangeShapes Go.WideShapes Go.ChangeAt Go.RowKit Go.Deep Go.WideElems

instance : Inhabited Act14 := ⟨⟨0, 0, 0, 0, 0, cell0, none, 0, [], false, pen0⟩⟩
section
variable {H : Type} {enc : TypeId × Value → H}
end
structure ALine where
 A : Option Addr
 c : Nat
 cs : List Cell
 s : Bool
instance : Inhabited ALine := ⟨⟨none, 0, [], false⟩⟩
section
variable {H : Type} {enc : TypeId × Value → H}
end
end Go.Proofs.YtdndoikgnohkkaaDoor

set_option linter.constructorNameAsVariable false
set_option maxRecDepth 100000
namespace Go.Proofs.YtdndoikgnohkkaaDoor
open Go.ChangeShapes Go.WideShapes Go.ChangeAt Go.RowKit Go.Deep Go.WideElems

instance : Inhabited Saved := ⟨saved0⟩
section
variable {H : Type} {enc : TypeId × Value → H}
theorem cells_chk : Tryd.prog.cellsOf 30 = 1 := by kernel_rfl
theorem cells_arrCh : Tryd.prog.cellsOf 31 = 2 := by kernel_rfl
theorem cells_charsets : Tryd.prog.cellsOf 33 = 3 := by kernel_rfl
theorem cells_saved : Tryd.prog.cellsOf 35 = 18 := by kernel_rfl
theorem trod_arrCh {w : World} {base : Nat} {sp : Nat → Bool} {fuel : Nat} {cs : List Value} {x : DataW H × List MemPlace} {hd : Bool} (h : DataW.trod enc Tryd.prog w base sp hd fuel 31 cs = some x) : ∃ a b, cs = [.int .i64 a, .int .i64 b] := by
 obtain ⟨xs, n, _, _, hlen, hxl, hf⟩ := DataW.trod_array Tryd.underlying31 h
 rw [cells_arrCh] at hlen
 match cs, hlen with
 | [c0, c1], _ =>
  have h0 := hf 0 (by omega)
  have h1 := hf 1 (by omega)
  simp only [cells_chk, Nat.zero_mul, Nat.one_mul, Nat.mul_one, List.drop_zero, List.drop_succ_cons, List.take_succ_cons, List.take_zero] at h0 h1
  obtain ⟨a, rfl⟩ := num_field Tryd.underlying30 (by simp [hxl]) h0
  obtain ⟨b, rfl⟩ := num_field Tryd.underlying30 (by simp [hxl]) h1
  exact ⟨a, b, rfl⟩
theorem trod_charsets {w : World} {base : Nat} {sp : Nat → Bool} {fuel : Nat} {cs : List Value} {x : DataW H × List MemPlace} {hd : Bool} (h : DataW.trod enc Tryd.prog w base sp hd fuel 33 cs = some x) : ∃ a b c, cs = [.int .i64 a, .int .i64 b, .int .i64 c] := by
 obtain ⟨xs, n, _, _, hlen, hxl, hf⟩ := DataW.trod_struct Tryd.underlying33 h
 rw [cells_charsets] at hlen
 match cs, hlen, hf with
 | [c0, c1, c2], _, hf =>
  have h0 : DataW.trod enc Tryd.prog w base sp hd n 31 (([c0, c1, c2].drop 0).take (Tryd.prog.cellsOf 31)) = xs[0]? := hf 0 _ rfl
  have h1 : DataW.trod enc Tryd.prog w base sp hd n 3 (([c0, c1, c2].drop 2).take (Tryd.prog.cellsOf 3)) = xs[1]? := hf 1 _ rfl
  obtain ⟨z0, e0⟩ := some_of (show (xs[0]?).isSome = true by simp [hxl])
  simp only [cells_int, cells_arrCh, List.drop_zero, List.drop_succ_cons, List.take_succ_cons, List.take_zero] at h0 h1
  obtain ⟨a, b, hab⟩ := trod_arrCh (h0.trans e0)
  obtain ⟨c, rfl⟩ := num_field Tryd.underlying3 (by simp [hxl]) h1
  simp only [List.cons.injEq, and_true] at hab
  obtain ⟨rfl, rfl⟩ := hab
  exact ⟨a, b, c, rfl⟩
theorem trod_saved {w : World} {base : Nat} {sp : Nat → Bool} {fuel : Nat} {cs : List Value} {x : DataW H × List MemPlace} {hd : Bool} (h : DataW.trod enc Tryd.prog w base sp hd fuel 35 cs = some x) : ∃ s : Saved, cs = (sv s).toList := by
 obtain ⟨xs, n, _, _, hlen, hxl, hf⟩ := DataW.trod_struct Tryd.underlying35 h
 rw [cells_saved] at hlen
 have h0 : DataW.trod enc Tryd.prog w base sp hd n 23 ((cs.drop 0).take (Tryd.prog.cellsOf 23)) = xs[0]? := hf 0 _ rfl
 have h1 : DataW.trod enc Tryd.prog w base sp hd n 29 ((cs.drop 3).take (Tryd.prog.cellsOf 29)) = xs[1]? := hf 1 _ rfl
 have h2 : DataW.trod enc Tryd.prog w base sp hd n 4 ((cs.drop 14).take (Tryd.prog.cellsOf 4)) = xs[2]? := hf 2 _ rfl
 have h3 : DataW.trod enc Tryd.prog w base sp hd n 33 ((cs.drop 15).take (Tryd.prog.cellsOf 33)) = xs[3]? := hf 3 _ rfl
 obtain ⟨z0, e0⟩ := some_of (show (xs[0]?).isSome = true by simp [hxl])
 obtain ⟨z1, e1⟩ := some_of (show (xs[1]?).isSome = true by simp [hxl])
 obtain ⟨z2, e2⟩ := some_of (show (xs[2]?).isSome = true by simp [hxl])
 obtain ⟨z3, e3⟩ := some_of (show (xs[3]?).isSome = true by simp [hxl])
 simp only [cells_cursor, cells_pen, cells_bool, cells_charsets] at h0 h1 h2 h3
 obtain ⟨ro, co, pe, hc⟩ := trod_cursor (h0.trans e0)
 obtain ⟨q, hq⟩ := trod_pen (h1.trans e1)
 obtain ⟨bo, hb, _⟩ := DataW.trod_bool Tryd.underlying4 (h2.trans e2)
 obtain ⟨sa, sb, ac, hs⟩ := trod_charsets (h3.trans e3)
 match cs, hlen with
 | [c0, c1, c2, c3, c4, c5, c6, c7, c8, c9, c10, c11, c12, c13, c14, c15, c16, c17], _ =>
  simp only [List.drop_zero, List.drop_succ_cons, List.take_succ_cons, List.take_zero] at hc hq hb hs
  simp only [List.cons.injEq, and_true] at hc hb hs
  obtain ⟨rfl, rfl, rfl⟩ := hc
  subst hb
  obtain ⟨rfl, rfl, rfl⟩ := hs
  simp only [pv, List.cons.injEq, and_true] at hq
  obtain ⟨rfl, rfl, rfl, rfl, rfl, rfl, rfl, rfl, rfl, rfl, rfl⟩ := hq
  exact ⟨⟨ro, co, pe, q, bo, sa, sb, ac⟩, rfl⟩
theorem open_saved {v : Value} {w : World} {r : Reach} {b0 base : Nat} {sp : Nat → Bool} {hd : Bool} {d : DataW H} {p : List MemPlace} (hv : Value.okWide Tryd.prog w r b0 35 v) (h : DataW.Trod enc Tryd.prog w base sp hd 35 v d p) : ∃ s : Saved, v = .agg (sv s) := by
 obtain ⟨cs, rfl, _⟩ := okWide_struct Tryd.underlying35 hv
 obtain ⟨fuel, hf⟩ := h
 obtain ⟨a, ha⟩ := trod_saved hf
 exact ⟨a, by rw [show cs = sv a from by simpa [Value.cells] using ha]⟩
theorem open_saveds {v : Value} {w : World} {r : Reach} {b0 : Nat} {hd : Bool} {d : DataW H} {p : List MemPlace} (hv : Value.okWide Tryd.prog w r b0 79 v) (h : DataW.Trod enc Tryd.prog w 0 (fun _ => true) hd 79 v d p) : ∃ (A : Option Addr) (c : Nat) (l : List Saved), v = .slice A l.length c ∧ RdRec w A c 18 (l.map sv) ∧ c ≤ maxLen := by
 obtain ⟨A, c, l, h1, h2, h3, -⟩ := open_recs (Pr := fun _ => True) sv Tryd.underlying79 cells_saved (by decide) sv_size (fun fuel cs' x' h => by obtain ⟨a, ha⟩ := trod_saved h; exact ⟨a, ha, trivial⟩) hv h
 exact ⟨A, c, l, h1, h2, h3⟩
def iv1 (n : Int) : Array Value := #[.int .i64 n]
theorem open_ints {v : Value} {w : World} {r : Reach} {b0 : Nat} {hd : Bool} {d : DataW H} {p : List MemPlace} (hv : Value.okWide Tryd.prog w r b0 78 v) (h : DataW.Trod enc Tryd.prog w 0 (fun _ => true) hd 78 v d p) : ∃ (A : Option Addr) (c : Nat) (l : List Int), v = .slice A l.length c ∧ RdRec w A c 1 (l.map iv1) ∧ c ≤ maxLen := by
 obtain ⟨A, c, l, h1, h2, h3, -⟩ := open_recs (Pr := fun _ => True) iv1 Tryd.underlying78 cells_int (by decide) (fun _ => rfl) (fun fuel cs' x' h => by
  obtain ⟨a, ha, _⟩ := DataW.trod_int Tryd.underlying3 h
  exact ⟨a, ha, trivial⟩) hv h
 exact ⟨A, c, l, h1, h2, h3⟩
end
end Go.Proofs.YtdndoikgnohkkaaDoor

set_option linter.constructorNameAsVariable false
set_option maxRecDepth 100000
namespace Go.Proofs.YtdndoikgnohkkaaDoor
open Go.ChangeShapes Go.WideShapes Go.ChangeAt Go.RowKit Go.Deep Go.WideElems

theorem own_knob : ownKnob Tryd.prog.godebug = none := by kernel_rfl
theorem laid_out : laidOutB Tryd.prog = true := by kernel_rfl
def pairData {H : Type} (x : Int × Int) : DataW H := .agg [.lit (.int .i32 x.1), .lit (.int .i32 x.2)]
theorem cells_pair : Tryd.prog.cellsOf 138 = 2 := by kernel_rfl
section
variable {H : Type} {enc : TypeId × Value → H} {w : World} {base : Nat} {sp : Nat → Bool} {hd : Bool} {fuel : Nat} {cs : List Value}
theorem num_lit {t : TypeId} {c : Value} {n : Int} {p : List MemPlace} (ht : Tryd.prog.underlying t = some (.int .i32)) (h : DataW.trod enc Tryd.prog w base sp hd fuel t [c] = some (.lit (.int .i32 n), p)) : c = .int .i32 n := by
 obtain ⟨m, hm, hx, _⟩ := DataW.trod_int ht h
 simp only [Prod.mk.injEq, DataW.lit.injEq, Lit.int.injEq, true_and] at hx
 simp only [List.cons.injEq, and_true] at hm
 rw [hm, hx.1]
theorem trod_pair {x : Int × Int} {p : List MemPlace} (h : DataW.trod enc Tryd.prog w base sp hd fuel 138 cs = some (pairData x, p)) : cs = [.int .i32 x.1, .int .i32 x.2] := by
 obtain ⟨xs, n, _, hx, hlen, hxl, hf⟩ := DataW.trod_array Tryd.underlying138 h
 rw [cells_pair] at hlen
 match cs, hlen, xs, hxl, hf, hx with
 | [c0, c1], _, [y0, y1], _, hf, hx =>
  have h0 := hf 0 (by omega)
  have h1 := hf 1 (by omega)
  simp only [cells_i32, Nat.zero_mul, Nat.one_mul, List.drop_zero, List.drop_succ_cons, List.take_succ_cons, List.take_zero, List.getElem?_cons_zero, List.getElem?_cons_succ] at h0 h1
  simp only [pairData, List.map_cons, List.map_nil, Prod.mk.injEq, DataW.agg.injEq, List.cons.injEq, and_true] at hx
  obtain ⟨y0a, y0b⟩ := y0
  obtain ⟨y1a, y1b⟩ := y1
  obtain ⟨⟨e0, e1⟩, _⟩ := hx
  simp only at e0 e1
  subst e0 e1
  rw [num_lit Tryd.underlying21 h0, num_lit Tryd.underlying21 h1]
theorem trod_table {t : TypeId} {tab : List (Int × Int)} {p : List MemPlace} (ht : Tryd.prog.underlying t = some (.array tab.length 138)) (h : DataW.trod enc Tryd.prog w base sp hd fuel t cs = some (.agg (tab.map pairData), p)) :
  ∀ k, k < tab.length → cs[k * 2]? = some (.int .i32 (loOf tab k)) ∧ cs[k * 2 + 1]? = some (.int .i32 (hiOf tab k)) := by
 obtain ⟨xs, n, _, hx, hlen, hxl, hf⟩ := DataW.trod_array ht h
 intro k hk
 have hkf := hf k hk
 rw [cells_pair] at hkf
 have hk2 : k < xs.length := by omega
 rw [List.getElem?_eq_getElem hk2] at hkf
 simp only [Prod.mk.injEq, DataW.agg.injEq] at hx
 have he : xs[k].1 = pairData tab[k] := by
  have := congrArg (fun l => l[k]?) hx.1
  simp only [List.getElem?_map, List.getElem?_eq_getElem hk, List.getElem?_eq_getElem hk2, Option.map_some, Option.some.injEq] at this
  exact this.symm
 have hp := trod_pair (x := tab[k]) (p := xs[k].2) (by rw [hkf, ← he])
 have g0 := congrArg (fun l => l[0]?) hp
 have g1 := congrArg (fun l => l[1]?) hp
 simp only [List.getElem?_take, List.getElem?_drop, List.getElem?_cons_zero, List.getElem?_cons_succ, Nat.add_zero] at g0 g1
 simp only [loOf, hiOf, List.getD_eq_getElem?_getD, List.getElem?_eq_getElem hk, Option.getD_some]
 exact ⟨by simpa using g0, by simpa using g1⟩
end
theorem pairs_of {W : World} {name : String} {g : Nat} {t : TypeId} {tab : List (Int × Int)} {cs : Array Value} {fuel : Nat} {p : List MemPlace} {base : Nat} {sp : Nat → Bool} {hd : Bool} {H : Type} {enc : TypeId × Value → H} (hg : Tryd.prog.globalNamed name = some g) (ht : Tryd.prog.underlying t = some (.array tab.length 138))
  (hv : W.var? Tryd.prog name = some cs) (h : DataW.trod enc Tryd.prog W base sp hd fuel t cs.toList = some (.agg (tab.map pairData), p)) (hn : 0 < tab.length) : Pairs W g tab.length (loOf tab) (hiOf tab) := by
 have hc := World.var?_cell hg hv
 have htb := trod_table ht h
 refine ⟨?_, fun k hk => ?_⟩
 ·have := (htb 0 hn).1
  have h0 := hc 0
  simp only [Nat.zero_mul, Array.getElem?_toList] at this
  rw [this] at h0
  exact block_lt_of_cell h0
 ·obtain ⟨h1, h2⟩ := htb k hk
  rw [hc, hc]
  exact ⟨by simpa using h1, by simpa using h2⟩
theorem tabs_of {W : World} (h : laidMetH Tryd.prog Rows.alternateNilRow.laid W) : Tabs W := by
 have h' : laidMet Tryd.prog Rows.alternateNilRow.laid W := h
 obtain ⟨ps, ⟨g, t, cs, fuel, p, q, hg, ht, hv, hd, ⟨g2, t2, cs2, fuel2, p2, q2, hg2, ht2, hv2, hd2, _⟩, _⟩, _⟩ := h'
 have e1 : Tryd.prog.globalNamed "scrollback/width.marks" = some 0 := by kernel_rfl
 have e2 : Tryd.prog.globalNamed "scrollback/width.wide" = some 1 := by kernel_rfl
 obtain rfl := Option.some.inj (e1.symm.trans hg)
 obtain rfl := Option.some.inj (e2.symm.trans hg2)
 have f1 : (Tryd.prog.globals[0]?).map (·.type) = some 139 := by kernel_rfl
 have f2 : (Tryd.prog.globals[1]?).map (·.type) = some 140 := by kernel_rfl
 obtain rfl := Option.some.inj (f1.symm.trans ht)
 obtain rfl := Option.some.inj (f2.symm.trans ht2)
 exact ⟨pairs_of (tab := marksTab) e1 Tryd.underlying139 hv hd (by decide), pairs_of (tab := wideTab) e2 Tryd.underlying140 hv2 hd2 (by decide)⟩
def setTab (n : Nat) (tab : List (Int × Int)) (h : Array Obj) : Array Obj := h.modify n fun
 | .cells _ t frozen => .cells (tab.flatMap fun x => [Value.int .i32 x.1, Value.int .i32 x.2]).toArray t frozen
 | o => o
noncomputable def laidWorld (os : Os) : World :=
 { World.holding Tryd.prog os ⟨#[], #[], []⟩ with heap := setTab 1 wideTab (setTab 0 marksTab (World.holding Tryd.prog os ⟨#[], #[], []⟩).heap) }
end Go.Proofs.YtdndoikgnohkkaaDoor
