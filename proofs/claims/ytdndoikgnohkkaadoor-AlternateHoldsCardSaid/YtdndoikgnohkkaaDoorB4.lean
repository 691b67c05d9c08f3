/-
  Part 4 of the texts on which the proofs of this seat stand: each part says ahead of it what it shows.
-/
import Derived.Test.YtdndoikgnohkkaaDoorB3
import Derived.ProofKit
import Derived.OpenShut
import Derived.Deep.Slices
import Derived.Lib.LaidTab
import Derived.ChangeSame
import Derived.Carry
import Derived.Test.YtdndoikgnohkkaaDoorCards
import Derived.Test.YtdndoikgnohkkaaDoorTie
import Derived.WalkKit
import Derived.Deep.DeepHandedRow
set_option linter.unusedSimpArgs false
set_option linter.unusedVariables false
namespace Go.Proofs.YtdndoikgnohkkaaDoor
open Go.RowKit

theorem entN_good {s : Pr} {rr : Nat} {n : Int} {x : Saved} {q : Pen} (h : s.good rr) (hq : n = 1049 → q.ok = true) : (entN n x q s).good rr := by
 unfold entN
 split
 ·rename_i hn; exact ⟨h.c0, h.cm, h.r0, h.rm, h.M, h.O.wipe (hq hn)⟩
 ·exact ⟨h.c0, h.cm, h.r0, h.rm, h.M, h.O⟩
theorem lvN_good {s : Pr} {rr : Nat} {n : Int} {q : Pen} (h : s.good rr) (hq : n = 1047 → q.ok = true) : (lvN n q s).good rr := by
 unfold lvN
 split
 ·rename_i hn; exact ⟨h.c0, h.cm, h.r0, h.rm, h.M, h.O.wipe (hq hn)⟩
 split
 ·exact ⟨h.c0, h.cm, h.r0, h.rm, h.M, h.O⟩
 ·exact ⟨h.c0, h.cm, h.r0, h.rm, h.M, h.O⟩
def cell24 (L : List Ln) (i j : Nat) : Option Cell := (L[i]?).bind fun l => l.1[j]?
theorem shows_at {w0 w : World} {os : List Ob} {i j cols k g : Nat} {L : List Ln} {x : Cell} (hS : Objs w0 w os) (hk : os[k]? = some (.grid g 83 cols L)) (hc : 0 < cols) (hj : j < cols) (hx : cell24 L i j = some x) :
  Calls Tryd.prog 42 #[.pointer (some ⟨g, 0, none⟩), .int .i64 i, .int .i64 j, .agg (cv x)] w fun e w' => e = .returned (.bool true) ∧ Objs w0 w' os := by
 unfold cell24 at hx
 cases hl : L[i]? with
 | none => rw [hl] at hx; cases hx
 | some l => rw [hl] at hx; exact shows_true hS hk hc hj hl hx
def cA24 : Cell := ⟨97, 0, 0, 0, 1, pen0⟩
def cE24 : Cell := ⟨0, 0, 0, 0, 1, pen0⟩
def sK24 : Saved := ⟨1, 2, false, pen0, false, 0, 0, 0⟩
def k24_0 : Pr := newP 2 3
def k24_1 : Pr := k24_0.setU (putR24 0 0 cA24 k24_0.cols k24_0.U)
def k24_2 : Pr := entN 1049 sK24 pen0 k24_1
def k24_3 : Pr := k24_2.setU (putR24 1 1 cA24 k24_2.cols k24_2.U)
def k24_4 : Pr := lvN 1049 pen0 k24_3
def k24_5 : Pr := entN 47 sK24 pen0 k24_4
def k24_6 : Pr := lvN 1047 pen0 k24_5
def k24_7 : Pr := entN 47 sK24 pen0 k24_6
theorem pen0_ok : pen0.ok = true := by decide +kernel
theorem k24_0_good : k24_0.good 2 := newP_good (by decide) (by decide) (by decide) (by decide)
theorem k24_1_good : k24_1.good 2 := k24_0_good.setU (putR24_k24 k24_0_good.U)
theorem k24_2_good : k24_2.good 2 := entN_good k24_1_good (fun _ => pen0_ok)
theorem k24_3_good : k24_3.good 2 := k24_2_good.setU (putR24_k24 k24_2_good.U)
theorem k24_4_good : k24_4.good 2 := lvN_good k24_3_good (fun _ => pen0_ok)
theorem k24_5_good : k24_5.good 2 := entN_good k24_4_good (fun _ => pen0_ok)
theorem k24_6_good : k24_6.good 2 := lvN_good k24_5_good (fun _ => pen0_ok)
theorem k24_7_good : k24_7.good 2 := entN_good k24_6_good (fun _ => pen0_ok)
section
variable {w0 w : World} {os : List Ob} {p : Nat}
theorem k24_e1 (hT : Tabs w0) (h : Objs w0 w (pairO p k24_0 :: os)) : Calls Tryd.prog 22 #[.pointer (some ⟨p, 0, none⟩), .agg (pw 0 0 cA24)] w fun e w' => e = .returned (.int .i64 0) ∧ Objs w0 w' (pairO p k24_1 :: os) := by
 have := puts_front (row := 0) (col := 0) cA24 hT h k24_0_good
 rw [show putE 0 0 cA24 k24_0.cols 2 = 0 by decide +kernel] at this
 exact this
theorem k24_e3 (hT : Tabs w0) (h : Objs w0 w (pairO p k24_2 :: os)) : Calls Tryd.prog 22 #[.pointer (some ⟨p, 0, none⟩), .agg (pw 1 1 cA24)] w fun e w' => e = .returned (.int .i64 0) ∧ Objs w0 w' (pairO p k24_3 :: os) := by
 have := puts_front (row := 1) (col := 1) cA24 hT h k24_2_good
 rw [show putE 1 1 cA24 k24_2.cols 2 = 0 by decide +kernel] at this
 exact this
theorem k24_e2 (hT : Tabs w0) (h : Objs w0 w (pairO p k24_1 :: os)) : Calls Tryd.prog 9 #[.pointer (some ⟨p, 0, none⟩), .int .i64 1049, .agg (sv sK24), .agg (pv pen0)] w fun e w' => e = .returned (.int .i64 0) ∧ Objs w0 w' (pairO p k24_2 :: os) := Enter_yes 1049 sK24 pen0 hT h k24_1_good (by decide +kernel)
theorem k24_e5 (hT : Tabs w0) (h : Objs w0 w (pairO p k24_4 :: os)) : Calls Tryd.prog 9 #[.pointer (some ⟨p, 0, none⟩), .int .i64 47, .agg (sv sK24), .agg (pv pen0)] w fun e w' => e = .returned (.int .i64 0) ∧ Objs w0 w' (pairO p k24_5 :: os) := Enter_yes 47 sK24 pen0 hT h k24_4_good (by decide +kernel)
theorem k24_e7 (hT : Tabs w0) (h : Objs w0 w (pairO p k24_6 :: os)) : Calls Tryd.prog 9 #[.pointer (some ⟨p, 0, none⟩), .int .i64 47, .agg (sv sK24), .agg (pv pen0)] w fun e w' => e = .returned (.int .i64 0) ∧ Objs w0 w' (pairO p k24_7 :: os) := Enter_yes 47 sK24 pen0 hT h k24_6_good (by decide +kernel)
theorem k24_busy (hT : Tabs w0) (h : Objs w0 w (pairO p k24_3 :: os)) : Calls Tryd.prog 9 #[.pointer (some ⟨p, 0, none⟩), .int .i64 47, .agg (sv sK24), .agg (pv pen0)] w fun e w' => e = .returned (.int .i64 11) ∧ Objs w0 w' (pairO p k24_3 :: os) := by
 have he : entE 47 sK24 pen0 k24_3 = 11 := by decide +kernel
 have := Enter_no 47 sK24 pen0 hT h (by rw [he]; decide)
 rw [he] at this
 exact this
theorem k24_e8 (hT : Tabs w0) (h : Objs w0 w (pairO p k24_7 :: os)) : Calls Tryd.prog 9 #[.pointer (some ⟨p, 0, none⟩), .int .i64 1048, .agg (sv sK24), .agg (pv pen0)] w fun e w' => e = .returned (.int .i64 2) ∧ Objs w0 w' (pairO p k24_7 :: os) := by
 have he : entE 1048 sK24 pen0 k24_7 = 2 := by decide +kernel
 have := Enter_no 1048 sK24 pen0 hT h (by rw [he]; decide)
 rw [he] at this
 exact this
theorem k24_e4 (hT : Tabs w0) (h : Objs w0 w (pairO p k24_3 :: os)) : Calls Tryd.prog 10 #[.pointer (some ⟨p, 0, none⟩), .int .i64 1049, .agg (pv pen0), .agg (sv sK24), .bool true, .int .i64 0] w fun e w' => e = .returned (.bool true) ∧ Objs w0 w' (pairO p k24_4 :: os) :=
 leaves_true h (fun bs W h => front_bs h (fun os1 h => by
  have := Leave_yes 1049 pen0 hT h k24_3_good (by decide +kernel)
  rw [show lvS 1049 k24_3 = some sK24 by decide +kernel] at this
  exact this))
theorem k24_e6 (hT : Tabs w0) (h : Objs w0 w (pairO p k24_5 :: os)) : Calls Tryd.prog 10 #[.pointer (some ⟨p, 0, none⟩), .int .i64 1047, .agg (pv pen0), .agg (sv saved0), .bool false, .int .i64 0] w fun e w' => e = .returned (.bool true) ∧ Objs w0 w' (pairO p k24_6 :: os) :=
 leaves_true h (fun bs W h => front_bs h (fun os1 h => by
  have := Leave_yes 1047 pen0 hT h k24_5_good (by decide +kernel)
  rw [show lvS 1047 k24_5 = none by decide +kernel] at this
  exact this))
theorem k24_e4b (hT : Tabs w0) (h : Objs w0 w (pairO p k24_4 :: os)) : Calls Tryd.prog 10 #[.pointer (some ⟨p, 0, none⟩), .int .i64 47, .agg (pv pen0), .agg (sv saved0), .bool false, .int .i64 8] w fun e w' => e = .returned (.bool true) ∧ Objs w0 w' (pairO p k24_4 :: os) :=
 leaves_true h (fun bs W h => front_bs h (fun os1 h => by
  have he : lvE 47 pen0 k24_4 = 8 := by decide +kernel
  have := Leave_no 47 pen0 hT h (by rw [he]; decide)
  rw [he] at this
  exact this))
end
set_option maxRecDepth 100000 in
set_option maxHeartbeats 16000000 in
theorem l24known_any (w : World) (hT : Tabs w) : Calls Tryd.prog 20 #[] w fun e w' => e = .returned (.bool true) ∧ Below w.heap.size w w' := by
 have HT := Lib.hid hT
 clear hT
 go_enter Tryd.func20, Tryd.ntmps20
 go_wp2_with fail
 refine (pairNew_yes (w0 := w) (os := []) 2 3 (by decide) (by decide) (by decide) (by decide) (objs_start w)).mono ?_
 rintro e w1 ⟨p, rfl, hS⟩
 have S0 := Lib.hid (show Objs w w1 [pairO p k24_0] from hS)
 clear hS
 go_upto_region 3 with (fail)
 refine at_objsC (S0.out.alloc2 (c1 := cv cA24) (t1 := 61) (c2 := cv cE24) (t2 := 61)) (fun W hW => ?_)
 generalize w1.heap.size + 1 = b4 at hW ⊢
 generalize w1.heap.size = b3 at hW ⊢
 have S9 := Lib.hid hW
 clear hW S0
 go_upto_region 4 with (fail)
 refine at_objsC (S9.out.alloc1 (c1 := sv sK24) (t1 := 35)) (fun W2 hW => ?_)
 generalize W.heap.size = b5 at hW ⊢
 have S1 := Lib.hid (show Objs w W2 [pairO p k24_0, .box b5 35 (sv sK24), .box b4 61 (cv cE24), .box b3 61 (cv cA24)] from (Objs.pick (σ := [_, _, _, _]) (os := []) hW [some 3, some 0, some 1, some 2] (by decide) rfl))
 clear hW S9
 refine wp_region_stage (w0 := w) (os := []) (by kernel_rfl) (by kernel_rfl) (by kernel_rfl) [(2, 10, [], fun vs => pairO p k24_1), (2, 17, [], fun vs => pairO p k24_2), (0, 32, [32], fun vs => .grid (blkOf (vs 32)) 83 3 k24_2.U), (1, 39, [39], fun vs => .grid (blkOf (vs 39)) 83 3 k24_2.M)] [[], [], [], [], [], [], [], [], [5], [], [2], [], [], [], [], [3], [], [2], [], [], [], [], [2], [], [], [], [], [2], [], [], [], [], [0, 2], [4], [0], [], [], [], [], [1, 2], [5], [1], [], []] [.none, .none, pairO p k24_0, .box b5 35 (sv sK24), .box b4 61 (cv cE24), .box b3 61 (cv cA24)] (fun opn u => match opn with | 0 => u = .pointer (some ⟨p, 0, none⟩) | 1 => u = .bool false | 2 => u = .bool false | 3 => u = .int .i64 0 | 4 => u = .bool false | 5 => u = .bool false | 6 => u = .bool false | 7 => u = .pointer (some ⟨p, 0, none⟩) | 8 => u = .agg (cv cA24) | 9 => u = .agg (pw 0 0 cA24) | 10 => u = .int .i64 0 | 11 => u = .bool false | 12 => u = .bool false | 13 => u = .bool false | 14 => u = .pointer (some ⟨p, 0, none⟩) | 15 => u = .agg (sv sK24) | 16 => u = .agg (pv pen0) | 17 => u = .int .i64 0 | 18 => u = .bool false | 19 => u = .bool false | 20 => u = .bool false | 21 => u = .pointer (some ⟨p, 0, none⟩) | 22 => u = .bool true | 23 => u = .bool false | 24 => u = .bool false | 25 => u = .bool false | 26 => u = .pointer (some ⟨p, 0, none⟩) | 27 => u = .int .i64 1049 | 28 => u = .bool false | 29 => u = .bool false | 30 => u = .bool false | 31 => u = .pointer (some ⟨p, 0, none⟩) | 32 => ∃ x, u = .pointer (some ⟨x, 0, none⟩) | 33 => u = .agg (cv cE24) | 34 => u = .bool true | 35 => u = .bool false | 36 => u = .bool false | 37 => u = .bool false | 38 => u = .pointer (some ⟨p, 0, none⟩) | 39 => ∃ x, u = .pointer (some ⟨x, 0, none⟩) | 40 => u = .agg (cv cA24) | 41 => u = .bool true | 42 => u = .bool false | 43 => u = .bool false | _ => True) (fun vs => [.grid (blkOf (vs 32)) 83 3 k24_2.U, .grid (blkOf (vs 39)) 83 3 k24_2.M, pairO p k24_2, .box b5 35 (sv sK24), .box b4 61 (cv cE24), .box b3 61 (cv cA24)]) (by kernel_rfl) (fun vs => by rfl) S1.out.pad.pad ?_ ?_
 ·apply sc
  ·intro a w' vs σ hS hl hs hk
   have f1 : a.tmps[1]?.getD undef = .pointer (some ⟨p, 0, none⟩) := sof hk
   exact rp (pt p 0) (by simp [execOp, Act.eval, f1, go_sem]) hl hs hS
  apply sc
  ·intro a w' vs σ hS hl hs hk
   have f15 : a.tmps[15]?.getD undef = .pointer (some ⟨p, 0, none⟩) := svf hk 0
   exact rp (.bool false) (by simp [execOp, Act.eval, f15, go_sem]) hl hs hS
  apply sc
  ·intro a w' vs σ hS hl hs hk
   have f16 : a.tmps[16]?.getD undef = .bool false := svf hk 1
   exact rp (.bool false) (by simp [execOp, Act.eval, f16, go_sem]) hl hs hS
  apply sc
  ·intro a w' vs σ hS hl hs hk
   have f2 : a.tmps[2]?.getD undef = .int .i64 0 := sof hk
   exact rq (.int .i64 0) (wanted_yes rfl rfl rfl (svv hk 2)) (by simp [execOp, Act.eval, f2, go_sem]) hl hs hS
  apply sc
  ·intro a w' vs σ hS hl hs hk
   have f18 : a.tmps[18]?.getD undef = .int .i64 0 := svf hk 3
   exact rq (.bool false) (wanted_yes rfl rfl rfl (svv hk 2)) (by simp [execOp, Act.eval, f18, go_sem]) hl hs hS
  apply sc
  ·intro a w' vs σ hS hl hs hk
   have f17 : a.tmps[17]?.getD undef = .bool false := svf hk 2
   have f19 : a.tmps[19]?.getD undef = .bool false := svf hk 4
   exact rp (.bool false) (by simp [execOp, Act.eval, f17, f19, go_sem]) hl hs hS
  apply sc
  ·intro a w' vs σ hS hl hs hk
   have f20 : a.tmps[20]?.getD undef = .bool false := svf hk 5
   exact rp (.bool false) (by simp [execOp, Act.eval, f20, go_sem]) hl hs hS
  apply sc
  ·intro a w' vs σ hS hl hs hk
   have f1 : a.tmps[1]?.getD undef = .pointer (some ⟨p, 0, none⟩) := sof hk
   exact rq (pt p 0) (wanted_yes rfl rfl rfl (svv hk 6)) (by simp [execOp, Act.eval, f1, go_sem]) hl hs hS
  apply sc
  ·intro a w' vs σ hS hl hs hk
   have f3 : a.tmps[3]?.getD undef = .pointer (some ⟨b3, 0, none⟩) := sof hk
   have hx := (hS.box (sg (hs 5 (by decide)))).cellAt
   exact rq (.agg (cv cA24)) (wanted_yes rfl rfl rfl (svv hk 6)) (by simp [execOp, Act.eval, f3, go_sem, hx]) hl hs hS
  apply sc
  ·intro a w' vs σ hS hl hs hk
   have f23 : a.tmps[23]?.getD undef = .agg (cv cA24) := svf hk 8
   exact rq (.agg (pw 0 0 cA24)) (wanted_yes rfl rfl rfl (svv hk 6)) (by simp [execOp, Act.eval, f23, go_sem]) hl hs hS
  apply sc
  ·intro a w' vs σ hS hl hs hk
   have e22 : a.tmps.getD 22 undef = .pointer (some ⟨p, 0, none⟩) := svv hk 7
   have e24 : a.tmps.getD 24 undef = .agg (pw 0 0 cA24) := svv hk 9
   exact ro_call (f := 22) (wanted_yes rfl rfl rfl (svv hk 6)) rfl (by simp only [List.map_toArray, List.map_cons, List.map_nil, Act.eval, e22, e24] <;> rfl) (fun _ _ => by kernel_rfl) ((front_call hS (sg (hs 2 (by decide))) (fun os1 h => k24_e1 HT.out h)).mono fun e w2 ⟨h1, h2⟩ => ⟨_, h1, sp_set 2 (pairO p k24_1) (by kernel_rfl) (by simp) (by decide) hl hs (by rfl) h2 rfl, trivial⟩)
  apply sc
  ·intro a w' vs σ hS hl hs hk
   have f25 : a.tmps[25]?.getD undef = .int .i64 0 := svf hk 10
   exact rq (.bool false) (wanted_yes rfl rfl rfl (svv hk 6)) (by simp [execOp, Act.eval, f25, go_sem]) hl hs hS
  apply sc
  ·intro a w' vs σ hS hl hs hk
   have f21 : a.tmps[21]?.getD undef = .bool false := svf hk 6
   have f26 : a.tmps[26]?.getD undef = .bool false := svf hk 11
   exact rp (.bool false) (by simp [execOp, Act.eval, f21, f26, go_sem]) hl hs hS
  apply sc
  ·intro a w' vs σ hS hl hs hk
   have f27 : a.tmps[27]?.getD undef = .bool false := svf hk 12
   exact rp (.bool false) (by simp [execOp, Act.eval, f27, go_sem]) hl hs hS
  apply sc
  ·intro a w' vs σ hS hl hs hk
   have f1 : a.tmps[1]?.getD undef = .pointer (some ⟨p, 0, none⟩) := sof hk
   exact rq (pt p 0) (wanted_yes rfl rfl rfl (svv hk 13)) (by simp [execOp, Act.eval, f1, go_sem]) hl hs hS
  apply sc
  ·intro a w' vs σ hS hl hs hk
   have f5 : a.tmps[5]?.getD undef = .pointer (some ⟨b5, 0, none⟩) := sof hk
   have hx := (hS.box (sg (hs 3 (by decide)))).saved.2.2.2.1
   exact rq (.agg (sv sK24)) (wanted_yes rfl rfl rfl (svv hk 13)) (by simp [execOp, Act.eval, f5, go_sem, hx]) hl hs hS
  apply sc
  ·intro a w' vs σ hS hl hs hk
   exact rq (.agg (pv pen0)) (wanted_yes rfl rfl rfl (svv hk 13)) (by simp [execOp, Act.eval, go_sem]) hl hs hS
  apply sc
  ·intro a w' vs σ hS hl hs hk
   have e29 : a.tmps.getD 29 undef = .pointer (some ⟨p, 0, none⟩) := svv hk 14
   have e30 : a.tmps.getD 30 undef = .agg (sv sK24) := svv hk 15
   have e31 : a.tmps.getD 31 undef = .agg (pv pen0) := svv hk 16
   exact ro_call (f := 9) (wanted_yes rfl rfl rfl (svv hk 13)) rfl (by simp only [List.map_toArray, List.map_cons, List.map_nil, Act.eval, e29, e30, e31] <;> rfl) (fun _ _ => by kernel_rfl) ((front_call hS (sg (hs 2 (by decide))) (fun os1 h => k24_e2 HT.out h)).mono fun e w2 ⟨h1, h2⟩ => ⟨_, h1, sp_set 2 (pairO p k24_2) (by kernel_rfl) (by simp) (by decide) hl hs (by rfl) h2 rfl, trivial⟩)
  apply sc
  ·intro a w' vs σ hS hl hs hk
   have f32 : a.tmps[32]?.getD undef = .int .i64 0 := svf hk 17
   exact rq (.bool false) (wanted_yes rfl rfl rfl (svv hk 13)) (by simp [execOp, Act.eval, f32, go_sem]) hl hs hS
  apply sc
  ·intro a w' vs σ hS hl hs hk
   have f28 : a.tmps[28]?.getD undef = .bool false := svf hk 13
   have f33 : a.tmps[33]?.getD undef = .bool false := svf hk 18
   exact rp (.bool false) (by simp [execOp, Act.eval, f28, f33, go_sem]) hl hs hS
  apply sc
  ·intro a w' vs σ hS hl hs hk
   have f34 : a.tmps[34]?.getD undef = .bool false := svf hk 19
   exact rp (.bool false) (by simp [execOp, Act.eval, f34, go_sem]) hl hs hS
  apply sc
  ·intro a w' vs σ hS hl hs hk
   have f1 : a.tmps[1]?.getD undef = .pointer (some ⟨p, 0, none⟩) := sof hk
   exact rq (pt p 0) (wanted_yes rfl rfl rfl (svv hk 20)) (by simp [execOp, Act.eval, f1, go_sem]) hl hs hS
  apply sc
  ·intro a w' vs σ hS hl hs hk
   have e36 : a.tmps.getD 36 undef = .pointer (some ⟨p, 0, none⟩) := svv hk 21
   have hcon := Alternate_any hS (sg (hs 2 (by decide)))
   rw [show decide (¬ k24_2.mode = 0) = true by decide +kernel] at hcon
   exact ro_call (f := 11) (wanted_yes rfl rfl rfl (svv hk 20)) rfl (by simp only [List.map_toArray, List.map_cons, List.map_nil, Act.eval, e36] <;> rfl) (fun _ _ => by kernel_rfl) ((hcon).mono fun e w2 ⟨h1, h2⟩ => ⟨_, h1, sp_same (by kernel_rfl) hl hs h2 rfl, trivial⟩)
  apply sc
  ·intro a w' vs σ hS hl hs hk
   have f37 : a.tmps[37]?.getD undef = .bool true := svf hk 22
   exact rq (.bool false) (wanted_yes rfl rfl rfl (svv hk 20)) (by simp [execOp, Act.eval, f37, go_sem]) hl hs hS
  apply sc
  ·intro a w' vs σ hS hl hs hk
   have f35 : a.tmps[35]?.getD undef = .bool false := svf hk 20
   have f38 : a.tmps[38]?.getD undef = .bool false := svf hk 23
   exact rp (.bool false) (by simp [execOp, Act.eval, f35, f38, go_sem]) hl hs hS
  apply sc
  ·intro a w' vs σ hS hl hs hk
   have f39 : a.tmps[39]?.getD undef = .bool false := svf hk 24
   exact rp (.bool false) (by simp [execOp, Act.eval, f39, go_sem]) hl hs hS
  apply sc
  ·intro a w' vs σ hS hl hs hk
   have f1 : a.tmps[1]?.getD undef = .pointer (some ⟨p, 0, none⟩) := sof hk
   exact rq (pt p 0) (wanted_yes rfl rfl rfl (svv hk 25)) (by simp [execOp, Act.eval, f1, go_sem]) hl hs hS
  apply sc
  ·intro a w' vs σ hS hl hs hk
   have e41 : a.tmps.getD 41 undef = .pointer (some ⟨p, 0, none⟩) := svv hk 26
   have hcon := Mode_any hS (sg (hs 2 (by decide)))
   rw [show k24_2.mode = 1049 by decide +kernel] at hcon
   exact ro_call (f := 12) (wanted_yes rfl rfl rfl (svv hk 25)) rfl (by simp only [List.map_toArray, List.map_cons, List.map_nil, Act.eval, e41] <;> rfl) (fun _ _ => by kernel_rfl) ((hcon).mono fun e w2 ⟨h1, h2⟩ => ⟨_, h1, sp_same (by kernel_rfl) hl hs h2 rfl, trivial⟩)
  apply sc
  ·intro a w' vs σ hS hl hs hk
   have f42 : a.tmps[42]?.getD undef = .int .i64 1049 := svf hk 27
   exact rq (.bool false) (wanted_yes rfl rfl rfl (svv hk 25)) (by simp [execOp, Act.eval, f42, go_sem]) hl hs hS
  apply sc
  ·intro a w' vs σ hS hl hs hk
   have f40 : a.tmps[40]?.getD undef = .bool false := svf hk 25
   have f43 : a.tmps[43]?.getD undef = .bool false := svf hk 28
   exact rp (.bool false) (by simp [execOp, Act.eval, f40, f43, go_sem]) hl hs hS
  apply sc
  ·intro a w' vs σ hS hl hs hk
   have f44 : a.tmps[44]?.getD undef = .bool false := svf hk 29
   exact rp (.bool false) (by simp [execOp, Act.eval, f44, go_sem]) hl hs hS
  apply sc
  ·intro a w' vs σ hS hl hs hk
   have f1 : a.tmps[1]?.getD undef = .pointer (some ⟨p, 0, none⟩) := sof hk
   exact rq (pt p 0) (wanted_yes rfl rfl rfl (svv hk 30)) (by simp [execOp, Act.eval, f1, go_sem]) hl hs hS
  apply sc
  ·intro a w' vs σ hS hl hs hk
   have e46 : a.tmps.getD 46 undef = .pointer (some ⟨p, 0, none⟩) := svv hk 31
   have h0 : σ[0]? = some .none := hs 0 (by decide)
   exact ro_call (f := 13) (wanted_yes rfl rfl rfl (svv hk 30)) rfl (by simp only [List.map_toArray, List.map_cons, List.map_nil, Act.eval, e46] <;> rfl) (fun _ _ => by kernel_rfl) ((Grid_at hS (sg (hs 2 (by decide))) k24_2_good).mono fun e w2 ⟨x, h1, h2⟩ => ⟨_, h1, sp_set 0 (.grid x 83 3 k24_2.U) (by kernel_rfl) (by simp) (by decide) hl hs (by rfl) (h2.place (sg h0)) ⟨x, rfl⟩, trivial⟩)
  apply sc
  ·intro a w' vs σ hS hl hs hk
   have f4 : a.tmps[4]?.getD undef = .pointer (some ⟨b4, 0, none⟩) := sof hk
   have hx := (hS.box (sg (hs 4 (by decide)))).cellAt
   exact rq (.agg (cv cE24)) (wanted_yes rfl rfl rfl (svv hk 30)) (by simp [execOp, Act.eval, f4, go_sem, hx]) hl hs hS
  apply sc
  ·intro a w' vs σ hS hl hs hk
   have e47 : a.tmps.getD 47 undef = vs 32 := sk_val hk 32 (by kernel_rfl) rfl rfl
   have p47 : (fun u : Value => ∃ x, u = .pointer (some ⟨x, 0, none⟩)) (vs 32) := (hk.1 32 (by kernel_rfl)).1
   have e48 : a.tmps.getD 48 undef = .agg (cv cE24) := svv hk 33
   obtain ⟨g9, q9⟩ := p47
   rw [q9] at e47
   have h0 : σ[0]? = some (.grid (blkOf (vs 32)) 83 3 k24_2.U) := hs 0 (by decide)
   rw [q9, show blkOf (.pointer (some ⟨g9, 0, none⟩)) = g9 from rfl] at h0
   exact ro_call (f := 42) (wanted_yes rfl rfl rfl (svv hk 30)) rfl (by simp only [List.map_toArray, List.map_cons, List.map_nil, Act.eval, e47, e48] <;> rfl) (fun _ _ => by kernel_rfl) ((shows_at (i := 0) (j := 0) (x := cE24) hS (sg h0) (by decide) (by decide) (by decide +kernel)).mono fun e w2 ⟨h1, h2⟩ => ⟨_, h1, sp_same (by kernel_rfl) hl hs h2 rfl, trivial⟩)
  apply sc
  ·intro a w' vs σ hS hl hs hk
   have f49 : a.tmps[49]?.getD undef = .bool true := svf hk 34
   exact rq (.bool false) (wanted_yes rfl rfl rfl (svv hk 30)) (by simp [execOp, Act.eval, f49, go_sem]) hl hs hS
  apply sc
  ·intro a w' vs σ hS hl hs hk
   have f45 : a.tmps[45]?.getD undef = .bool false := svf hk 30
   have f50 : a.tmps[50]?.getD undef = .bool false := svf hk 35
   exact rp (.bool false) (by simp [execOp, Act.eval, f45, f50, go_sem]) hl hs hS
  apply sc
  ·intro a w' vs σ hS hl hs hk
   have f51 : a.tmps[51]?.getD undef = .bool false := svf hk 36
   exact rp (.bool false) (by simp [execOp, Act.eval, f51, go_sem]) hl hs hS
  apply sc
  ·intro a w' vs σ hS hl hs hk
   have f1 : a.tmps[1]?.getD undef = .pointer (some ⟨p, 0, none⟩) := sof hk
   exact rq (pt p 0) (wanted_yes rfl rfl rfl (svv hk 37)) (by simp [execOp, Act.eval, f1, go_sem]) hl hs hS
  apply sc
  ·intro a w' vs σ hS hl hs hk
   have e53 : a.tmps.getD 53 undef = .pointer (some ⟨p, 0, none⟩) := svv hk 38
   have h0 : σ[1]? = some .none := hs 1 (by decide)
   exact ro_call (f := 14) (wanted_yes rfl rfl rfl (svv hk 37)) rfl (by simp only [List.map_toArray, List.map_cons, List.map_nil, Act.eval, e53] <;> rfl) (fun _ _ => by kernel_rfl) ((Main_at hS (sg (hs 2 (by decide))) k24_2_good).mono fun e w2 ⟨x, h1, h2⟩ => ⟨_, h1, sp_set 1 (.grid x 83 3 k24_2.M) (by kernel_rfl) (by simp) (by decide) hl hs (by rfl) (h2.place (sg h0)) ⟨x, rfl⟩, trivial⟩)
  apply sc
  ·intro a w' vs σ hS hl hs hk
   have f3 : a.tmps[3]?.getD undef = .pointer (some ⟨b3, 0, none⟩) := sof hk
   have hx := (hS.box (sg (hs 5 (by decide)))).cellAt
   exact rq (.agg (cv cA24)) (wanted_yes rfl rfl rfl (svv hk 37)) (by simp [execOp, Act.eval, f3, go_sem, hx]) hl hs hS
  apply sc
  ·intro a w' vs σ hS hl hs hk
   have e54 : a.tmps.getD 54 undef = vs 39 := sk_val hk 39 (by kernel_rfl) rfl rfl
   have p54 : (fun u : Value => ∃ x, u = .pointer (some ⟨x, 0, none⟩)) (vs 39) := (hk.1 39 (by kernel_rfl)).1
   have e55 : a.tmps.getD 55 undef = .agg (cv cA24) := svv hk 40
   obtain ⟨g9, q9⟩ := p54
   rw [q9] at e54
   have h0 : σ[1]? = some (.grid (blkOf (vs 39)) 83 3 k24_2.M) := hs 1 (by decide)
   rw [q9, show blkOf (.pointer (some ⟨g9, 0, none⟩)) = g9 from rfl] at h0
   exact ro_call (f := 42) (wanted_yes rfl rfl rfl (svv hk 37)) rfl (by simp only [List.map_toArray, List.map_cons, List.map_nil, Act.eval, e54, e55] <;> rfl) (fun _ _ => by kernel_rfl) ((shows_at (i := 0) (j := 0) (x := cA24) hS (sg h0) (by decide) (by decide) (by decide +kernel)).mono fun e w2 ⟨h1, h2⟩ => ⟨_, h1, sp_same (by kernel_rfl) hl hs h2 rfl, trivial⟩)
  apply sc
  ·intro a w' vs σ hS hl hs hk
   have f56 : a.tmps[56]?.getD undef = .bool true := svf hk 41
   exact rq (.bool false) (wanted_yes rfl rfl rfl (svv hk 37)) (by simp [execOp, Act.eval, f56, go_sem]) hl hs hS
  apply sc
  ·intro a w' vs σ hS hl hs hk
   have f52 : a.tmps[52]?.getD undef = .bool false := svf hk 37
   have f57 : a.tmps[57]?.getD undef = .bool false := svf hk 42
   exact rp (.bool false) (by simp [execOp, Act.eval, f52, f57, go_sem]) hl hs hS
  exact SSteps.nil
 ·intro vs w' hS hv
  have q0 : vs 0 = _ := hv 0 (by decide)
  have q1 : vs 1 = _ := hv 1 (by decide)
  have q2 : vs 2 = _ := hv 2 (by decide)
  have q3 : vs 3 = _ := hv 3 (by decide)
  have q4 : vs 4 = _ := hv 4 (by decide)
  have q5 : vs 5 = _ := hv 5 (by decide)
  have q6 : vs 6 = _ := hv 6 (by decide)
  have q7 : vs 7 = _ := hv 7 (by decide)
  have q8 : vs 8 = _ := hv 8 (by decide)
  have q9 : vs 9 = _ := hv 9 (by decide)
  have q10 : vs 10 = _ := hv 10 (by decide)
  have q11 : vs 11 = _ := hv 11 (by decide)
  have q12 : vs 12 = _ := hv 12 (by decide)
  have q13 : vs 13 = _ := hv 13 (by decide)
  have q14 : vs 14 = _ := hv 14 (by decide)
  have q15 : vs 15 = _ := hv 15 (by decide)
  have q16 : vs 16 = _ := hv 16 (by decide)
  have q17 : vs 17 = _ := hv 17 (by decide)
  have q18 : vs 18 = _ := hv 18 (by decide)
  have q19 : vs 19 = _ := hv 19 (by decide)
  have q20 : vs 20 = _ := hv 20 (by decide)
  have q21 : vs 21 = _ := hv 21 (by decide)
  have q22 : vs 22 = _ := hv 22 (by decide)
  have q23 : vs 23 = _ := hv 23 (by decide)
  have q24 : vs 24 = _ := hv 24 (by decide)
  have q25 : vs 25 = _ := hv 25 (by decide)
  have q26 : vs 26 = _ := hv 26 (by decide)
  have q27 : vs 27 = _ := hv 27 (by decide)
  have q28 : vs 28 = _ := hv 28 (by decide)
  have q29 : vs 29 = _ := hv 29 (by decide)
  have q30 : vs 30 = _ := hv 30 (by decide)
  have q31 : vs 31 = _ := hv 31 (by decide)
  have q33 : vs 33 = _ := hv 33 (by decide)
  have q34 : vs 34 = _ := hv 34 (by decide)
  have q35 : vs 35 = _ := hv 35 (by decide)
  have q36 : vs 36 = _ := hv 36 (by decide)
  have q37 : vs 37 = _ := hv 37 (by decide)
  have q38 : vs 38 = _ := hv 38 (by decide)
  have q40 : vs 40 = _ := hv 40 (by decide)
  have q41 : vs 41 = _ := hv 41 (by decide)
  have q42 : vs 42 = _ := hv 42 (by decide)
  have q43 : vs 43 = _ := hv 43 (by decide)
  have S2 := Lib.hid hS
  simp only [putL, Act.put, Nat.zero_add, Nat.reduceAdd, List.setIfInBounds_toArray, List.set_cons_succ, List.set_cons_zero, q0, q1, q2, q3, q4, q5, q6, q7, q8, q9, q10, q11, q12, q13, q14, q15, q16, q17, q18, q19, q20, q21, q22, q23, q24, q25, q26, q27, q28, q29, q30, q31, q33, q34, q35, q36, q37, q38, q40, q41, q42, q43]
  clear hS hv q0 q1 q2 q3 q4 q5 q6 q7 q8 q9 q10 q11 q12 q13 q14 q15 q16 q17 q18 q19 q20 q21 q22 q23 q24 q25 q26 q27 q28 q29 q30 q31 q33 q34 q35 q36 q37 q38 q40 q41 q42 q43
  have S1_ := Lib.hid (show Objs w _ [pairO p k24_2, .box b5 35 (sv sK24), .box b4 61 (cv cE24), .box b3 61 (cv cA24)] from S2.out.tail.tail)
  clear S1 S2
  have S1 := S1_
  clear S1_
  go_upto_region 6 with (fail)
  refine wp_region_stage (w0 := w) (os := []) (by kernel_rfl) (by kernel_rfl) (by kernel_rfl) [(2, 3, [], fun vs => pairO p k24_3), (2, 9, [], fun vs => pairO p k24_3), (2, 16, [], fun vs => pairO p k24_4), (0, 21, [21], fun vs => .grid (blkOf (vs 21)) 83 3 k24_4.U), (1, 28, [28], fun vs => .grid (blkOf (vs 28)) 83 3 k24_4.U), (2, 37, [], fun vs => pairO p k24_4)] [[], [5], [], [2], [], [], [], [3], [], [2], [], [], [], [], [], [3], [2], [], [], [], [], [0, 2], [5], [0], [], [], [], [], [1, 2], [4], [1], [], [], [], [], [], [], [2], [], []] [.none, .none, pairO p k24_2, .box b5 35 (sv sK24), .box b4 61 (cv cE24), .box b3 61 (cv cA24)] (fun opn u => match opn with | 0 => u = .pointer (some ⟨p, 0, none⟩) | 1 => u = .agg (cv cA24) | 2 => u = .agg (pw 1 1 cA24) | 3 => u = .int .i64 0 | 4 => u = .bool false | 5 => u = .bool false | 6 => u = .pointer (some ⟨p, 0, none⟩) | 7 => u = .agg (sv sK24) | 8 => u = .agg (pv pen0) | 9 => u = .int .i64 11 | 10 => u = .bool false | 11 => u = .bool false | 12 => u = .bool false | 13 => u = .pointer (some ⟨p, 0, none⟩) | 14 => u = .agg (pv pen0) | 15 => u = .agg (sv sK24) | 16 => u = .bool true | 17 => u = .bool false | 18 => u = .bool false | 19 => u = .bool false | 20 => u = .pointer (some ⟨p, 0, none⟩) | 21 => ∃ x, u = .pointer (some ⟨x, 0, none⟩) | 22 => u = .agg (cv cA24) | 23 => u = .bool true | 24 => u = .bool false | 25 => u = .bool false | 26 => u = .bool false | 27 => u = .pointer (some ⟨p, 0, none⟩) | 28 => ∃ x, u = .pointer (some ⟨x, 0, none⟩) | 29 => u = .agg (cv cE24) | 30 => u = .bool true | 31 => u = .bool false | 32 => u = .bool false | 33 => u = .bool false | 34 => u = .pointer (some ⟨p, 0, none⟩) | 35 => u = .agg (pv pen0) | 36 => u = .agg (sv saved0) | 37 => u = .bool true | 38 => u = .bool false | 39 => u = .bool false | _ => True) (fun vs => [.grid (blkOf (vs 21)) 83 3 k24_4.U, .grid (blkOf (vs 28)) 83 3 k24_4.U, pairO p k24_4, .box b5 35 (sv sK24), .box b4 61 (cv cE24), .box b3 61 (cv cA24)]) (by kernel_rfl) (fun vs => by rfl) S1.out.pad.pad ?_ ?_
  ·apply sc
   ·intro a w' vs σ hS hl hs hk
    have f1 : a.tmps[1]?.getD undef = .pointer (some ⟨p, 0, none⟩) := sof hk
    exact rp (pt p 0) (by simp [execOp, Act.eval, f1, go_sem]) hl hs hS
   apply sc
   ·intro a w' vs σ hS hl hs hk
    have f3 : a.tmps[3]?.getD undef = .pointer (some ⟨b3, 0, none⟩) := sof hk
    have hx := (hS.box (sg (hs 5 (by decide)))).cellAt
    exact rp (.agg (cv cA24)) (by simp [execOp, Act.eval, f3, go_sem, hx]) hl hs hS
   apply sc
   ·intro a w' vs σ hS hl hs hk
    have f60 : a.tmps[60]?.getD undef = .agg (cv cA24) := svf hk 1
    exact rp (.agg (pw 1 1 cA24)) (by simp [execOp, Act.eval, f60, go_sem]) hl hs hS
   apply sc
   ·intro a w' vs σ hS hl hs hk
    have e59 : a.tmps.getD 59 undef = .pointer (some ⟨p, 0, none⟩) := svv hk 0
    have e61 : a.tmps.getD 61 undef = .agg (pw 1 1 cA24) := svv hk 2
    exact ro_call (f := 22) (wanted_none rfl) rfl (by simp only [List.map_toArray, List.map_cons, List.map_nil, Act.eval, e59, e61] <;> rfl) (fun _ _ => by kernel_rfl) ((front_call hS (sg (hs 2 (by decide))) (fun os1 h => k24_e3 HT.out h)).mono fun e w2 ⟨h1, h2⟩ => ⟨_, h1, sp_set 2 (pairO p k24_3) (by kernel_rfl) (by simp) (by decide) hl hs (by rfl) h2 rfl, trivial⟩)
   apply sc
   ·intro a w' vs σ hS hl hs hk
    have f62 : a.tmps[62]?.getD undef = .int .i64 0 := svf hk 3
    exact rp (.bool false) (by simp [execOp, Act.eval, f62, go_sem]) hl hs hS
   apply sc
   ·intro a w' vs σ hS hl hs hk
    have f63 : a.tmps[63]?.getD undef = .bool false := svf hk 4
    exact rp (.bool false) (by simp [execOp, Act.eval, f63, go_sem]) hl hs hS
   apply sc
   ·intro a w' vs σ hS hl hs hk
    have f1 : a.tmps[1]?.getD undef = .pointer (some ⟨p, 0, none⟩) := sof hk
    exact rq (pt p 0) (wanted_yes rfl rfl rfl (svv hk 5)) (by simp [execOp, Act.eval, f1, go_sem]) hl hs hS
   apply sc
   ·intro a w' vs σ hS hl hs hk
    have f5 : a.tmps[5]?.getD undef = .pointer (some ⟨b5, 0, none⟩) := sof hk
    have hx := (hS.box (sg (hs 3 (by decide)))).saved.2.2.2.1
    exact rq (.agg (sv sK24)) (wanted_yes rfl rfl rfl (svv hk 5)) (by simp [execOp, Act.eval, f5, go_sem, hx]) hl hs hS
   apply sc
   ·intro a w' vs σ hS hl hs hk
    exact rq (.agg (pv pen0)) (wanted_yes rfl rfl rfl (svv hk 5)) (by simp [execOp, Act.eval, go_sem]) hl hs hS
   apply sc
   ·intro a w' vs σ hS hl hs hk
    have e65 : a.tmps.getD 65 undef = .pointer (some ⟨p, 0, none⟩) := svv hk 6
    have e66 : a.tmps.getD 66 undef = .agg (sv sK24) := svv hk 7
    have e67 : a.tmps.getD 67 undef = .agg (pv pen0) := svv hk 8
    exact ro_call (f := 9) (wanted_yes rfl rfl rfl (svv hk 5)) rfl (by simp only [List.map_toArray, List.map_cons, List.map_nil, Act.eval, e65, e66, e67] <;> rfl) (fun _ _ => by kernel_rfl) ((front_call hS (sg (hs 2 (by decide))) (fun os1 h => k24_busy HT.out h)).mono fun e w2 ⟨h1, h2⟩ => ⟨_, h1, sp_set 2 (pairO p k24_3) (by kernel_rfl) (by simp) (by decide) hl hs (by rfl) h2 rfl, trivial⟩)
   apply sc
   ·intro a w' vs σ hS hl hs hk
    have f68 : a.tmps[68]?.getD undef = .int .i64 11 := svf hk 9
    exact rq (.bool false) (wanted_yes rfl rfl rfl (svv hk 5)) (by simp [execOp, Act.eval, f68, go_sem]) hl hs hS
   apply sc
   ·intro a w' vs σ hS hl hs hk
    have f64 : a.tmps[64]?.getD undef = .bool false := svf hk 5
    have f69 : a.tmps[69]?.getD undef = .bool false := svf hk 10
    exact rp (.bool false) (by simp [execOp, Act.eval, f64, f69, go_sem]) hl hs hS
   apply sc
   ·intro a w' vs σ hS hl hs hk
    have f70 : a.tmps[70]?.getD undef = .bool false := svf hk 11
    exact rp (.bool false) (by simp [execOp, Act.eval, f70, go_sem]) hl hs hS
   apply sc
   ·intro a w' vs σ hS hl hs hk
    have f1 : a.tmps[1]?.getD undef = .pointer (some ⟨p, 0, none⟩) := sof hk
    exact rq (pt p 0) (wanted_yes rfl rfl rfl (svv hk 12)) (by simp [execOp, Act.eval, f1, go_sem]) hl hs hS
   apply sc
   ·intro a w' vs σ hS hl hs hk
    exact rq (.agg (pv pen0)) (wanted_yes rfl rfl rfl (svv hk 12)) (by simp [execOp, Act.eval, go_sem]) hl hs hS
   apply sc
   ·intro a w' vs σ hS hl hs hk
    have f5 : a.tmps[5]?.getD undef = .pointer (some ⟨b5, 0, none⟩) := sof hk
    have hx := (hS.box (sg (hs 3 (by decide)))).saved.2.2.2.1
    exact rq (.agg (sv sK24)) (wanted_yes rfl rfl rfl (svv hk 12)) (by simp [execOp, Act.eval, f5, go_sem, hx]) hl hs hS
   apply sc
   ·intro a w' vs σ hS hl hs hk
    have e72 : a.tmps.getD 72 undef = .pointer (some ⟨p, 0, none⟩) := svv hk 13
    have e73 : a.tmps.getD 73 undef = .agg (pv pen0) := svv hk 14
    have e74 : a.tmps.getD 74 undef = .agg (sv sK24) := svv hk 15
    exact ro_call (f := 10) (wanted_yes rfl rfl rfl (svv hk 12)) rfl (by simp only [List.map_toArray, List.map_cons, List.map_nil, Act.eval, e72, e73, e74] <;> rfl) (fun _ _ => by kernel_rfl) ((front_call hS (sg (hs 2 (by decide))) (fun os1 h => k24_e4 HT.out h)).mono fun e w2 ⟨h1, h2⟩ => ⟨_, h1, sp_set 2 (pairO p k24_4) (by kernel_rfl) (by simp) (by decide) hl hs (by rfl) h2 rfl, trivial⟩)
   apply sc
   ·intro a w' vs σ hS hl hs hk
    have f75 : a.tmps[75]?.getD undef = .bool true := svf hk 16
    exact rq (.bool false) (wanted_yes rfl rfl rfl (svv hk 12)) (by simp [execOp, Act.eval, f75, go_sem]) hl hs hS
   apply sc
   ·intro a w' vs σ hS hl hs hk
    have f71 : a.tmps[71]?.getD undef = .bool false := svf hk 12
    have f76 : a.tmps[76]?.getD undef = .bool false := svf hk 17
    exact rp (.bool false) (by simp [execOp, Act.eval, f71, f76, go_sem]) hl hs hS
   apply sc
   ·intro a w' vs σ hS hl hs hk
    have f77 : a.tmps[77]?.getD undef = .bool false := svf hk 18
    exact rp (.bool false) (by simp [execOp, Act.eval, f77, go_sem]) hl hs hS
   apply sc
   ·intro a w' vs σ hS hl hs hk
    have f1 : a.tmps[1]?.getD undef = .pointer (some ⟨p, 0, none⟩) := sof hk
    exact rq (pt p 0) (wanted_yes rfl rfl rfl (svv hk 19)) (by simp [execOp, Act.eval, f1, go_sem]) hl hs hS
   apply sc
   ·intro a w' vs σ hS hl hs hk
    have e79 : a.tmps.getD 79 undef = .pointer (some ⟨p, 0, none⟩) := svv hk 20
    have h0 : σ[0]? = some .none := hs 0 (by decide)
    exact ro_call (f := 13) (wanted_yes rfl rfl rfl (svv hk 19)) rfl (by simp only [List.map_toArray, List.map_cons, List.map_nil, Act.eval, e79] <;> rfl) (fun _ _ => by kernel_rfl) ((Grid_at hS (sg (hs 2 (by decide))) k24_4_good).mono fun e w2 ⟨x, h1, h2⟩ => ⟨_, h1, sp_set 0 (.grid x 83 3 k24_4.U) (by kernel_rfl) (by simp) (by decide) hl hs (by rfl) (h2.place (sg h0)) ⟨x, rfl⟩, trivial⟩)
   apply sc
   ·intro a w' vs σ hS hl hs hk
    have f3 : a.tmps[3]?.getD undef = .pointer (some ⟨b3, 0, none⟩) := sof hk
    have hx := (hS.box (sg (hs 5 (by decide)))).cellAt
    exact rq (.agg (cv cA24)) (wanted_yes rfl rfl rfl (svv hk 19)) (by simp [execOp, Act.eval, f3, go_sem, hx]) hl hs hS
   apply sc
   ·intro a w' vs σ hS hl hs hk
    have e80 : a.tmps.getD 80 undef = vs 21 := sk_val hk 21 (by kernel_rfl) rfl rfl
    have p80 : (fun u : Value => ∃ x, u = .pointer (some ⟨x, 0, none⟩)) (vs 21) := (hk.1 21 (by kernel_rfl)).1
    have e81 : a.tmps.getD 81 undef = .agg (cv cA24) := svv hk 22
    obtain ⟨g9, q9⟩ := p80
    rw [q9] at e80
    have h0 : σ[0]? = some (.grid (blkOf (vs 21)) 83 3 k24_4.U) := hs 0 (by decide)
    rw [q9, show blkOf (.pointer (some ⟨g9, 0, none⟩)) = g9 from rfl] at h0
    exact ro_call (f := 42) (wanted_yes rfl rfl rfl (svv hk 19)) rfl (by simp only [List.map_toArray, List.map_cons, List.map_nil, Act.eval, e80, e81] <;> rfl) (fun _ _ => by kernel_rfl) ((shows_at (i := 0) (j := 0) (x := cA24) hS (sg h0) (by decide) (by decide) (by decide +kernel)).mono fun e w2 ⟨h1, h2⟩ => ⟨_, h1, sp_same (by kernel_rfl) hl hs h2 rfl, trivial⟩)
   apply sc
   ·intro a w' vs σ hS hl hs hk
    have f82 : a.tmps[82]?.getD undef = .bool true := svf hk 23
    exact rq (.bool false) (wanted_yes rfl rfl rfl (svv hk 19)) (by simp [execOp, Act.eval, f82, go_sem]) hl hs hS
   apply sc
   ·intro a w' vs σ hS hl hs hk
    have f78 : a.tmps[78]?.getD undef = .bool false := svf hk 19
    have f83 : a.tmps[83]?.getD undef = .bool false := svf hk 24
    exact rp (.bool false) (by simp [execOp, Act.eval, f78, f83, go_sem]) hl hs hS
   apply sc
   ·intro a w' vs σ hS hl hs hk
    have f84 : a.tmps[84]?.getD undef = .bool false := svf hk 25
    exact rp (.bool false) (by simp [execOp, Act.eval, f84, go_sem]) hl hs hS
   apply sc
   ·intro a w' vs σ hS hl hs hk
    have f1 : a.tmps[1]?.getD undef = .pointer (some ⟨p, 0, none⟩) := sof hk
    exact rq (pt p 0) (wanted_yes rfl rfl rfl (svv hk 26)) (by simp [execOp, Act.eval, f1, go_sem]) hl hs hS
   apply sc
   ·intro a w' vs σ hS hl hs hk
    have e86 : a.tmps.getD 86 undef = .pointer (some ⟨p, 0, none⟩) := svv hk 27
    have h0 : σ[1]? = some .none := hs 1 (by decide)
    exact ro_call (f := 13) (wanted_yes rfl rfl rfl (svv hk 26)) rfl (by simp only [List.map_toArray, List.map_cons, List.map_nil, Act.eval, e86] <;> rfl) (fun _ _ => by kernel_rfl) ((Grid_at hS (sg (hs 2 (by decide))) k24_4_good).mono fun e w2 ⟨x, h1, h2⟩ => ⟨_, h1, sp_set 1 (.grid x 83 3 k24_4.U) (by kernel_rfl) (by simp) (by decide) hl hs (by rfl) (h2.place (sg h0)) ⟨x, rfl⟩, trivial⟩)
   apply sc
   ·intro a w' vs σ hS hl hs hk
    have f4 : a.tmps[4]?.getD undef = .pointer (some ⟨b4, 0, none⟩) := sof hk
    have hx := (hS.box (sg (hs 4 (by decide)))).cellAt
    exact rq (.agg (cv cE24)) (wanted_yes rfl rfl rfl (svv hk 26)) (by simp [execOp, Act.eval, f4, go_sem, hx]) hl hs hS
   apply sc
   ·intro a w' vs σ hS hl hs hk
    have e87 : a.tmps.getD 87 undef = vs 28 := sk_val hk 28 (by kernel_rfl) rfl rfl
    have p87 : (fun u : Value => ∃ x, u = .pointer (some ⟨x, 0, none⟩)) (vs 28) := (hk.1 28 (by kernel_rfl)).1
    have e88 : a.tmps.getD 88 undef = .agg (cv cE24) := svv hk 29
    obtain ⟨g9, q9⟩ := p87
    rw [q9] at e87
    have h0 : σ[1]? = some (.grid (blkOf (vs 28)) 83 3 k24_4.U) := hs 1 (by decide)
    rw [q9, show blkOf (.pointer (some ⟨g9, 0, none⟩)) = g9 from rfl] at h0
    exact ro_call (f := 42) (wanted_yes rfl rfl rfl (svv hk 26)) rfl (by simp only [List.map_toArray, List.map_cons, List.map_nil, Act.eval, e87, e88] <;> rfl) (fun _ _ => by kernel_rfl) ((shows_at (i := 1) (j := 1) (x := cE24) hS (sg h0) (by decide) (by decide) (by decide +kernel)).mono fun e w2 ⟨h1, h2⟩ => ⟨_, h1, sp_same (by kernel_rfl) hl hs h2 rfl, trivial⟩)
   apply sc
   ·intro a w' vs σ hS hl hs hk
    have f89 : a.tmps[89]?.getD undef = .bool true := svf hk 30
    exact rq (.bool false) (wanted_yes rfl rfl rfl (svv hk 26)) (by simp [execOp, Act.eval, f89, go_sem]) hl hs hS
   apply sc
   ·intro a w' vs σ hS hl hs hk
    have f85 : a.tmps[85]?.getD undef = .bool false := svf hk 26
    have f90 : a.tmps[90]?.getD undef = .bool false := svf hk 31
    exact rp (.bool false) (by simp [execOp, Act.eval, f85, f90, go_sem]) hl hs hS
   apply sc
   ·intro a w' vs σ hS hl hs hk
    have f91 : a.tmps[91]?.getD undef = .bool false := svf hk 32
    exact rp (.bool false) (by simp [execOp, Act.eval, f91, go_sem]) hl hs hS
   apply sc
   ·intro a w' vs σ hS hl hs hk
    have f1 : a.tmps[1]?.getD undef = .pointer (some ⟨p, 0, none⟩) := sof hk
    exact rq (pt p 0) (wanted_yes rfl rfl rfl (svv hk 33)) (by simp [execOp, Act.eval, f1, go_sem]) hl hs hS
   apply sc
   ·intro a w' vs σ hS hl hs hk
    exact rq (.agg (pv pen0)) (wanted_yes rfl rfl rfl (svv hk 33)) (by simp [execOp, Act.eval, go_sem]) hl hs hS
   apply sc
   ·intro a w' vs σ hS hl hs hk
    exact rq (.agg (sv saved0)) (wanted_yes rfl rfl rfl (svv hk 33)) (by simp [execOp, Act.eval, go_sem]) hl hs hS
   apply sc
   ·intro a w' vs σ hS hl hs hk
    have e93 : a.tmps.getD 93 undef = .pointer (some ⟨p, 0, none⟩) := svv hk 34
    have e94 : a.tmps.getD 94 undef = .agg (pv pen0) := svv hk 35
    have e95 : a.tmps.getD 95 undef = .agg (sv saved0) := svv hk 36
    exact ro_call (f := 10) (wanted_yes rfl rfl rfl (svv hk 33)) rfl (by simp only [List.map_toArray, List.map_cons, List.map_nil, Act.eval, e93, e94, e95] <;> rfl) (fun _ _ => by kernel_rfl) ((front_call hS (sg (hs 2 (by decide))) (fun os1 h => k24_e4b HT.out h)).mono fun e w2 ⟨h1, h2⟩ => ⟨_, h1, sp_set 2 (pairO p k24_4) (by kernel_rfl) (by simp) (by decide) hl hs (by rfl) h2 rfl, trivial⟩)
   apply sc
   ·intro a w' vs σ hS hl hs hk
    have f96 : a.tmps[96]?.getD undef = .bool true := svf hk 37
    exact rq (.bool false) (wanted_yes rfl rfl rfl (svv hk 33)) (by simp [execOp, Act.eval, f96, go_sem]) hl hs hS
   apply sc
   ·intro a w' vs σ hS hl hs hk
    have f92 : a.tmps[92]?.getD undef = .bool false := svf hk 33
    have f97 : a.tmps[97]?.getD undef = .bool false := svf hk 38
    exact rp (.bool false) (by simp [execOp, Act.eval, f92, f97, go_sem]) hl hs hS
   exact SSteps.nil
  ·intro vs w' hS hv
   have q0 : vs 0 = _ := hv 0 (by decide)
   have q1 : vs 1 = _ := hv 1 (by decide)
   have q2 : vs 2 = _ := hv 2 (by decide)
   have q3 : vs 3 = _ := hv 3 (by decide)
   have q4 : vs 4 = _ := hv 4 (by decide)
   have q5 : vs 5 = _ := hv 5 (by decide)
   have q6 : vs 6 = _ := hv 6 (by decide)
   have q7 : vs 7 = _ := hv 7 (by decide)
   have q8 : vs 8 = _ := hv 8 (by decide)
   have q9 : vs 9 = _ := hv 9 (by decide)
   have q10 : vs 10 = _ := hv 10 (by decide)
   have q11 : vs 11 = _ := hv 11 (by decide)
   have q12 : vs 12 = _ := hv 12 (by decide)
   have q13 : vs 13 = _ := hv 13 (by decide)
   have q14 : vs 14 = _ := hv 14 (by decide)
   have q15 : vs 15 = _ := hv 15 (by decide)
   have q16 : vs 16 = _ := hv 16 (by decide)
   have q17 : vs 17 = _ := hv 17 (by decide)
   have q18 : vs 18 = _ := hv 18 (by decide)
   have q19 : vs 19 = _ := hv 19 (by decide)
   have q20 : vs 20 = _ := hv 20 (by decide)
   have q22 : vs 22 = _ := hv 22 (by decide)
   have q23 : vs 23 = _ := hv 23 (by decide)
   have q24 : vs 24 = _ := hv 24 (by decide)
   have q25 : vs 25 = _ := hv 25 (by decide)
   have q26 : vs 26 = _ := hv 26 (by decide)
   have q27 : vs 27 = _ := hv 27 (by decide)
   have q29 : vs 29 = _ := hv 29 (by decide)
   have q30 : vs 30 = _ := hv 30 (by decide)
   have q31 : vs 31 = _ := hv 31 (by decide)
   have q32 : vs 32 = _ := hv 32 (by decide)
   have q33 : vs 33 = _ := hv 33 (by decide)
   have q34 : vs 34 = _ := hv 34 (by decide)
   have q35 : vs 35 = _ := hv 35 (by decide)
   have q36 : vs 36 = _ := hv 36 (by decide)
   have q37 : vs 37 = _ := hv 37 (by decide)
   have q38 : vs 38 = _ := hv 38 (by decide)
   have q39 : vs 39 = _ := hv 39 (by decide)
   have S2 := Lib.hid hS
   simp only [putL, Act.put, Nat.zero_add, Nat.reduceAdd, List.setIfInBounds_toArray, List.set_cons_succ, List.set_cons_zero, q0, q1, q2, q3, q4, q5, q6, q7, q8, q9, q10, q11, q12, q13, q14, q15, q16, q17, q18, q19, q20, q22, q23, q24, q25, q26, q27, q29, q30, q31, q32, q33, q34, q35, q36, q37, q38, q39]
   clear hS hv q0 q1 q2 q3 q4 q5 q6 q7 q8 q9 q10 q11 q12 q13 q14 q15 q16 q17 q18 q19 q20 q22 q23 q24 q25 q26 q27 q29 q30 q31 q32 q33 q34 q35 q36 q37 q38 q39
   have S1_ := Lib.hid (show Objs w _ [pairO p k24_4, .box b5 35 (sv sK24), .box b4 61 (cv cE24), .box b3 61 (cv cA24)] from S2.out.tail.tail)
   clear S1 S2
   have S1 := S1_
   clear S1_
   go_upto_region 8 with (fail)
   refine wp_region_stage (w0 := w) (os := []) (by kernel_rfl) (by kernel_rfl) (by kernel_rfl) [(2, 3, [], fun vs => pairO p k24_5), (0, 7, [7], fun vs => .grid (blkOf (vs 7)) 83 3 k24_5.U), (2, 16, [], fun vs => pairO p k24_6), (2, 23, [], fun vs => pairO p k24_7), (1, 28, [28], fun vs => .grid (blkOf (vs 28)) 83 3 k24_7.U)] [[], [3], [], [2], [], [], [], [0, 2], [5], [0], [], [], [], [], [], [], [2], [], [], [], [], [3], [], [2], [], [], [], [], [1, 2], [4], [1], [], []] [.none, .none, pairO p k24_4, .box b5 35 (sv sK24), .box b4 61 (cv cE24), .box b3 61 (cv cA24)] (fun opn u => match opn with | 0 => u = .pointer (some ⟨p, 0, none⟩) | 1 => u = .agg (sv sK24) | 2 => u = .agg (pv pen0) | 3 => u = .int .i64 0 | 4 => u = .bool false | 5 => u = .bool false | 6 => u = .pointer (some ⟨p, 0, none⟩) | 7 => ∃ x, u = .pointer (some ⟨x, 0, none⟩) | 8 => u = .agg (cv cA24) | 9 => u = .bool true | 10 => u = .bool false | 11 => u = .bool false | 12 => u = .bool false | 13 => u = .pointer (some ⟨p, 0, none⟩) | 14 => u = .agg (pv pen0) | 15 => u = .agg (sv saved0) | 16 => u = .bool true | 17 => u = .bool false | 18 => u = .bool false | 19 => u = .bool false | 20 => u = .pointer (some ⟨p, 0, none⟩) | 21 => u = .agg (sv sK24) | 22 => u = .agg (pv pen0) | 23 => u = .int .i64 0 | 24 => u = .bool false | 25 => u = .bool false | 26 => u = .bool false | 27 => u = .pointer (some ⟨p, 0, none⟩) | 28 => ∃ x, u = .pointer (some ⟨x, 0, none⟩) | 29 => u = .agg (cv cE24) | 30 => u = .bool true | 31 => u = .bool false | 32 => u = .bool false | _ => True) (fun vs => [.grid (blkOf (vs 7)) 83 3 k24_5.U, .grid (blkOf (vs 28)) 83 3 k24_7.U, pairO p k24_7, .box b5 35 (sv sK24), .box b4 61 (cv cE24), .box b3 61 (cv cA24)]) (by kernel_rfl) (fun vs => by rfl) S1.out.pad.pad ?_ ?_
   ·apply sc
    ·intro a w' vs σ hS hl hs hk
     have f1 : a.tmps[1]?.getD undef = .pointer (some ⟨p, 0, none⟩) := sof hk
     exact rp (pt p 0) (by simp [execOp, Act.eval, f1, go_sem]) hl hs hS
    apply sc
    ·intro a w' vs σ hS hl hs hk
     have f5 : a.tmps[5]?.getD undef = .pointer (some ⟨b5, 0, none⟩) := sof hk
     have hx := (hS.box (sg (hs 3 (by decide)))).saved.2.2.2.1
     exact rp (.agg (sv sK24)) (by simp [execOp, Act.eval, f5, go_sem, hx]) hl hs hS
    apply sc
    ·intro a w' vs σ hS hl hs hk
     exact rp (.agg (pv pen0)) (by simp [execOp, Act.eval, go_sem]) hl hs hS
    apply sc
    ·intro a w' vs σ hS hl hs hk
     have e99 : a.tmps.getD 99 undef = .pointer (some ⟨p, 0, none⟩) := svv hk 0
     have e100 : a.tmps.getD 100 undef = .agg (sv sK24) := svv hk 1
     have e101 : a.tmps.getD 101 undef = .agg (pv pen0) := svv hk 2
     exact ro_call (f := 9) (wanted_none rfl) rfl (by simp only [List.map_toArray, List.map_cons, List.map_nil, Act.eval, e99, e100, e101] <;> rfl) (fun _ _ => by kernel_rfl) ((front_call hS (sg (hs 2 (by decide))) (fun os1 h => k24_e5 HT.out h)).mono fun e w2 ⟨h1, h2⟩ => ⟨_, h1, sp_set 2 (pairO p k24_5) (by kernel_rfl) (by simp) (by decide) hl hs (by rfl) h2 rfl, trivial⟩)
    apply sc
    ·intro a w' vs σ hS hl hs hk
     have f102 : a.tmps[102]?.getD undef = .int .i64 0 := svf hk 3
     exact rp (.bool false) (by simp [execOp, Act.eval, f102, go_sem]) hl hs hS
    apply sc
    ·intro a w' vs σ hS hl hs hk
     have f103 : a.tmps[103]?.getD undef = .bool false := svf hk 4
     exact rp (.bool false) (by simp [execOp, Act.eval, f103, go_sem]) hl hs hS
    apply sc
    ·intro a w' vs σ hS hl hs hk
     have f1 : a.tmps[1]?.getD undef = .pointer (some ⟨p, 0, none⟩) := sof hk
     exact rq (pt p 0) (wanted_yes rfl rfl rfl (svv hk 5)) (by simp [execOp, Act.eval, f1, go_sem]) hl hs hS
    apply sc
    ·intro a w' vs σ hS hl hs hk
     have e105 : a.tmps.getD 105 undef = .pointer (some ⟨p, 0, none⟩) := svv hk 6
     have h0 : σ[0]? = some .none := hs 0 (by decide)
     exact ro_call (f := 13) (wanted_yes rfl rfl rfl (svv hk 5)) rfl (by simp only [List.map_toArray, List.map_cons, List.map_nil, Act.eval, e105] <;> rfl) (fun _ _ => by kernel_rfl) ((Grid_at hS (sg (hs 2 (by decide))) k24_5_good).mono fun e w2 ⟨x, h1, h2⟩ => ⟨_, h1, sp_set 0 (.grid x 83 3 k24_5.U) (by kernel_rfl) (by simp) (by decide) hl hs (by rfl) (h2.place (sg h0)) ⟨x, rfl⟩, trivial⟩)
    apply sc
    ·intro a w' vs σ hS hl hs hk
     have f3 : a.tmps[3]?.getD undef = .pointer (some ⟨b3, 0, none⟩) := sof hk
     have hx := (hS.box (sg (hs 5 (by decide)))).cellAt
     exact rq (.agg (cv cA24)) (wanted_yes rfl rfl rfl (svv hk 5)) (by simp [execOp, Act.eval, f3, go_sem, hx]) hl hs hS
    apply sc
    ·intro a w' vs σ hS hl hs hk
     have e106 : a.tmps.getD 106 undef = vs 7 := sk_val hk 7 (by kernel_rfl) rfl rfl
     have p106 : (fun u : Value => ∃ x, u = .pointer (some ⟨x, 0, none⟩)) (vs 7) := (hk.1 7 (by kernel_rfl)).1
     have e107 : a.tmps.getD 107 undef = .agg (cv cA24) := svv hk 8
     obtain ⟨g9, q9⟩ := p106
     rw [q9] at e106
     have h0 : σ[0]? = some (.grid (blkOf (vs 7)) 83 3 k24_5.U) := hs 0 (by decide)
     rw [q9, show blkOf (.pointer (some ⟨g9, 0, none⟩)) = g9 from rfl] at h0
     exact ro_call (f := 42) (wanted_yes rfl rfl rfl (svv hk 5)) rfl (by simp only [List.map_toArray, List.map_cons, List.map_nil, Act.eval, e106, e107] <;> rfl) (fun _ _ => by kernel_rfl) ((shows_at (i := 1) (j := 1) (x := cA24) hS (sg h0) (by decide) (by decide) (by decide +kernel)).mono fun e w2 ⟨h1, h2⟩ => ⟨_, h1, sp_same (by kernel_rfl) hl hs h2 rfl, trivial⟩)
    apply sc
    ·intro a w' vs σ hS hl hs hk
     have f108 : a.tmps[108]?.getD undef = .bool true := svf hk 9
     exact rq (.bool false) (wanted_yes rfl rfl rfl (svv hk 5)) (by simp [execOp, Act.eval, f108, go_sem]) hl hs hS
    apply sc
    ·intro a w' vs σ hS hl hs hk
     have f104 : a.tmps[104]?.getD undef = .bool false := svf hk 5
     have f109 : a.tmps[109]?.getD undef = .bool false := svf hk 10
     exact rp (.bool false) (by simp [execOp, Act.eval, f104, f109, go_sem]) hl hs hS
    apply sc
    ·intro a w' vs σ hS hl hs hk
     have f110 : a.tmps[110]?.getD undef = .bool false := svf hk 11
     exact rp (.bool false) (by simp [execOp, Act.eval, f110, go_sem]) hl hs hS
    apply sc
    ·intro a w' vs σ hS hl hs hk
     have f1 : a.tmps[1]?.getD undef = .pointer (some ⟨p, 0, none⟩) := sof hk
     exact rq (pt p 0) (wanted_yes rfl rfl rfl (svv hk 12)) (by simp [execOp, Act.eval, f1, go_sem]) hl hs hS
    apply sc
    ·intro a w' vs σ hS hl hs hk
     exact rq (.agg (pv pen0)) (wanted_yes rfl rfl rfl (svv hk 12)) (by simp [execOp, Act.eval, go_sem]) hl hs hS
    apply sc
    ·intro a w' vs σ hS hl hs hk
     exact rq (.agg (sv saved0)) (wanted_yes rfl rfl rfl (svv hk 12)) (by simp [execOp, Act.eval, go_sem]) hl hs hS
    apply sc
    ·intro a w' vs σ hS hl hs hk
     have e112 : a.tmps.getD 112 undef = .pointer (some ⟨p, 0, none⟩) := svv hk 13
     have e113 : a.tmps.getD 113 undef = .agg (pv pen0) := svv hk 14
     have e114 : a.tmps.getD 114 undef = .agg (sv saved0) := svv hk 15
     exact ro_call (f := 10) (wanted_yes rfl rfl rfl (svv hk 12)) rfl (by simp only [List.map_toArray, List.map_cons, List.map_nil, Act.eval, e112, e113, e114] <;> rfl) (fun _ _ => by kernel_rfl) ((front_call hS (sg (hs 2 (by decide))) (fun os1 h => k24_e6 HT.out h)).mono fun e w2 ⟨h1, h2⟩ => ⟨_, h1, sp_set 2 (pairO p k24_6) (by kernel_rfl) (by simp) (by decide) hl hs (by rfl) h2 rfl, trivial⟩)
    apply sc
    ·intro a w' vs σ hS hl hs hk
     have f115 : a.tmps[115]?.getD undef = .bool true := svf hk 16
     exact rq (.bool false) (wanted_yes rfl rfl rfl (svv hk 12)) (by simp [execOp, Act.eval, f115, go_sem]) hl hs hS
    apply sc
    ·intro a w' vs σ hS hl hs hk
     have f111 : a.tmps[111]?.getD undef = .bool false := svf hk 12
     have f116 : a.tmps[116]?.getD undef = .bool false := svf hk 17
     exact rp (.bool false) (by simp [execOp, Act.eval, f111, f116, go_sem]) hl hs hS
    apply sc
    ·intro a w' vs σ hS hl hs hk
     have f117 : a.tmps[117]?.getD undef = .bool false := svf hk 18
     exact rp (.bool false) (by simp [execOp, Act.eval, f117, go_sem]) hl hs hS
    apply sc
    ·intro a w' vs σ hS hl hs hk
     have f1 : a.tmps[1]?.getD undef = .pointer (some ⟨p, 0, none⟩) := sof hk
     exact rq (pt p 0) (wanted_yes rfl rfl rfl (svv hk 19)) (by simp [execOp, Act.eval, f1, go_sem]) hl hs hS
    apply sc
    ·intro a w' vs σ hS hl hs hk
     have f5 : a.tmps[5]?.getD undef = .pointer (some ⟨b5, 0, none⟩) := sof hk
     have hx := (hS.box (sg (hs 3 (by decide)))).saved.2.2.2.1
     exact rq (.agg (sv sK24)) (wanted_yes rfl rfl rfl (svv hk 19)) (by simp [execOp, Act.eval, f5, go_sem, hx]) hl hs hS
    apply sc
    ·intro a w' vs σ hS hl hs hk
     exact rq (.agg (pv pen0)) (wanted_yes rfl rfl rfl (svv hk 19)) (by simp [execOp, Act.eval, go_sem]) hl hs hS
    apply sc
    ·intro a w' vs σ hS hl hs hk
     have e119 : a.tmps.getD 119 undef = .pointer (some ⟨p, 0, none⟩) := svv hk 20
     have e120 : a.tmps.getD 120 undef = .agg (sv sK24) := svv hk 21
     have e121 : a.tmps.getD 121 undef = .agg (pv pen0) := svv hk 22
     exact ro_call (f := 9) (wanted_yes rfl rfl rfl (svv hk 19)) rfl (by simp only [List.map_toArray, List.map_cons, List.map_nil, Act.eval, e119, e120, e121] <;> rfl) (fun _ _ => by kernel_rfl) ((front_call hS (sg (hs 2 (by decide))) (fun os1 h => k24_e7 HT.out h)).mono fun e w2 ⟨h1, h2⟩ => ⟨_, h1, sp_set 2 (pairO p k24_7) (by kernel_rfl) (by simp) (by decide) hl hs (by rfl) h2 rfl, trivial⟩)
    apply sc
    ·intro a w' vs σ hS hl hs hk
     have f122 : a.tmps[122]?.getD undef = .int .i64 0 := svf hk 23
     exact rq (.bool false) (wanted_yes rfl rfl rfl (svv hk 19)) (by simp [execOp, Act.eval, f122, go_sem]) hl hs hS
    apply sc
    ·intro a w' vs σ hS hl hs hk
     have f118 : a.tmps[118]?.getD undef = .bool false := svf hk 19
     have f123 : a.tmps[123]?.getD undef = .bool false := svf hk 24
     exact rp (.bool false) (by simp [execOp, Act.eval, f118, f123, go_sem]) hl hs hS
    apply sc
    ·intro a w' vs σ hS hl hs hk
     have f124 : a.tmps[124]?.getD undef = .bool false := svf hk 25
     exact rp (.bool false) (by simp [execOp, Act.eval, f124, go_sem]) hl hs hS
    apply sc
    ·intro a w' vs σ hS hl hs hk
     have f1 : a.tmps[1]?.getD undef = .pointer (some ⟨p, 0, none⟩) := sof hk
     exact rq (pt p 0) (wanted_yes rfl rfl rfl (svv hk 26)) (by simp [execOp, Act.eval, f1, go_sem]) hl hs hS
    apply sc
    ·intro a w' vs σ hS hl hs hk
     have e126 : a.tmps.getD 126 undef = .pointer (some ⟨p, 0, none⟩) := svv hk 27
     have h0 : σ[1]? = some .none := hs 1 (by decide)
     exact ro_call (f := 13) (wanted_yes rfl rfl rfl (svv hk 26)) rfl (by simp only [List.map_toArray, List.map_cons, List.map_nil, Act.eval, e126] <;> rfl) (fun _ _ => by kernel_rfl) ((Grid_at hS (sg (hs 2 (by decide))) k24_7_good).mono fun e w2 ⟨x, h1, h2⟩ => ⟨_, h1, sp_set 1 (.grid x 83 3 k24_7.U) (by kernel_rfl) (by simp) (by decide) hl hs (by rfl) (h2.place (sg h0)) ⟨x, rfl⟩, trivial⟩)
    apply sc
    ·intro a w' vs σ hS hl hs hk
     have f4 : a.tmps[4]?.getD undef = .pointer (some ⟨b4, 0, none⟩) := sof hk
     have hx := (hS.box (sg (hs 4 (by decide)))).cellAt
     exact rq (.agg (cv cE24)) (wanted_yes rfl rfl rfl (svv hk 26)) (by simp [execOp, Act.eval, f4, go_sem, hx]) hl hs hS
    apply sc
    ·intro a w' vs σ hS hl hs hk
     have e127 : a.tmps.getD 127 undef = vs 28 := sk_val hk 28 (by kernel_rfl) rfl rfl
     have p127 : (fun u : Value => ∃ x, u = .pointer (some ⟨x, 0, none⟩)) (vs 28) := (hk.1 28 (by kernel_rfl)).1
     have e128 : a.tmps.getD 128 undef = .agg (cv cE24) := svv hk 29
     obtain ⟨g9, q9⟩ := p127
     rw [q9] at e127
     have h0 : σ[1]? = some (.grid (blkOf (vs 28)) 83 3 k24_7.U) := hs 1 (by decide)
     rw [q9, show blkOf (.pointer (some ⟨g9, 0, none⟩)) = g9 from rfl] at h0
     exact ro_call (f := 42) (wanted_yes rfl rfl rfl (svv hk 26)) rfl (by simp only [List.map_toArray, List.map_cons, List.map_nil, Act.eval, e127, e128] <;> rfl) (fun _ _ => by kernel_rfl) ((shows_at (i := 1) (j := 1) (x := cE24) hS (sg h0) (by decide) (by decide) (by decide +kernel)).mono fun e w2 ⟨h1, h2⟩ => ⟨_, h1, sp_same (by kernel_rfl) hl hs h2 rfl, trivial⟩)
    apply sc
    ·intro a w' vs σ hS hl hs hk
     have f129 : a.tmps[129]?.getD undef = .bool true := svf hk 30
     exact rq (.bool false) (wanted_yes rfl rfl rfl (svv hk 26)) (by simp [execOp, Act.eval, f129, go_sem]) hl hs hS
    apply sc
    ·intro a w' vs σ hS hl hs hk
     have f125 : a.tmps[125]?.getD undef = .bool false := svf hk 26
     have f130 : a.tmps[130]?.getD undef = .bool false := svf hk 31
     exact rp (.bool false) (by simp [execOp, Act.eval, f125, f130, go_sem]) hl hs hS
    exact SSteps.nil
   ·intro vs w' hS hv
    have q0 : vs 0 = _ := hv 0 (by decide)
    have q1 : vs 1 = _ := hv 1 (by decide)
    have q2 : vs 2 = _ := hv 2 (by decide)
    have q3 : vs 3 = _ := hv 3 (by decide)
    have q4 : vs 4 = _ := hv 4 (by decide)
    have q5 : vs 5 = _ := hv 5 (by decide)
    have q6 : vs 6 = _ := hv 6 (by decide)
    have q8 : vs 8 = _ := hv 8 (by decide)
    have q9 : vs 9 = _ := hv 9 (by decide)
    have q10 : vs 10 = _ := hv 10 (by decide)
    have q11 : vs 11 = _ := hv 11 (by decide)
    have q12 : vs 12 = _ := hv 12 (by decide)
    have q13 : vs 13 = _ := hv 13 (by decide)
    have q14 : vs 14 = _ := hv 14 (by decide)
    have q15 : vs 15 = _ := hv 15 (by decide)
    have q16 : vs 16 = _ := hv 16 (by decide)
    have q17 : vs 17 = _ := hv 17 (by decide)
    have q18 : vs 18 = _ := hv 18 (by decide)
    have q19 : vs 19 = _ := hv 19 (by decide)
    have q20 : vs 20 = _ := hv 20 (by decide)
    have q21 : vs 21 = _ := hv 21 (by decide)
    have q22 : vs 22 = _ := hv 22 (by decide)
    have q23 : vs 23 = _ := hv 23 (by decide)
    have q24 : vs 24 = _ := hv 24 (by decide)
    have q25 : vs 25 = _ := hv 25 (by decide)
    have q26 : vs 26 = _ := hv 26 (by decide)
    have q27 : vs 27 = _ := hv 27 (by decide)
    have q29 : vs 29 = _ := hv 29 (by decide)
    have q30 : vs 30 = _ := hv 30 (by decide)
    have q31 : vs 31 = _ := hv 31 (by decide)
    have q32 : vs 32 = _ := hv 32 (by decide)
    have S2 := Lib.hid hS
    simp only [putL, Act.put, Nat.zero_add, Nat.reduceAdd, List.setIfInBounds_toArray, List.set_cons_succ, List.set_cons_zero, q0, q1, q2, q3, q4, q5, q6, q8, q9, q10, q11, q12, q13, q14, q15, q16, q17, q18, q19, q20, q21, q22, q23, q24, q25, q26, q27, q29, q30, q31, q32]
    clear hS hv q0 q1 q2 q3 q4 q5 q6 q8 q9 q10 q11 q12 q13 q14 q15 q16 q17 q18 q19 q20 q21 q22 q23 q24 q25 q26 q27 q29 q30 q31 q32
    have S1_ := Lib.hid (show Objs w _ [pairO p k24_7, .box b5 35 (sv sK24), .box b4 61 (cv cE24), .box b3 61 (cv cA24)] from S2.out.tail.tail)
    clear S1 S2
    have S1 := S1_
    clear S1_
    go_wp2_with fail
    refine (pairNew_no 0 1 (by decide) S1.out).mono ?_
    rintro e w9 ⟨rfl, hS⟩
    have S3 := Lib.hid hS
    clear hS S1
    obtain ⟨hx5, hf5, hz5, hr5, hp5⟩ := (S3.out.box (k := 1) rfl).saved
    go_wp2_with fail
    refine (show Calls Tryd.prog 9 #[.pointer (some ⟨p, 0, none⟩), .int .i64 1048, .agg (sv sK24), .agg (pv pen0)] _ _ from k24_e8 HT.out S3.out).mono ?_
    rintro e w10 ⟨rfl, hS⟩
    have HB := Lib.hid hS.base
    clear hS S3 hx5 hf5 hz5 hr5 hp5
    go_wp2_with fail
    go_ret
    exact ⟨rfl, HB.out⟩
end Go.Proofs.YtdndoikgnohkkaaDoor

namespace Go.Proofs.YtdndoikgnohkkaaDoor
open Go.RowKit

structure Act24 where
 what : Int
 n : Int
 row : Int
 col : Int
 x : Cell
 s : Saved
 q : Pen
 A : Option Addr
 c : Nat
 L : List Ln
def av24 (a : Act24) : Array Value := #[.int .i64 a.what, .int .i64 a.n, .int .i64 a.row, .int .i64 a.col, .int .i32 a.x.rune, .int .i32 a.x.m0, .int .i32 a.x.m1, .int .i32 a.x.m2, .int .i64 a.x.width, .int .i64 a.x.pen.fk, .int .u8 a.x.pen.fi, .int .u8 a.x.pen.fr, .int .u8 a.x.pen.fg, .int .u8 a.x.pen.fb, .int .i64 a.x.pen.bk, .int .u8 a.x.pen.bi, .int .u8 a.x.pen.br, .int .u8 a.x.pen.bg, .int .u8 a.x.pen.bb, .int .u8 a.x.pen.fl, .int .i64 a.s.row, .int .i64 a.s.col, .bool a.s.pend, .int .i64 a.s.q.fk, .int .u8 a.s.q.fi, .int .u8 a.s.q.fr, .int .u8 a.s.q.fg, .int .u8 a.s.q.fb, .int .i64 a.s.q.bk, .int .u8 a.s.q.bi, .int .u8 a.s.q.br, .int .u8 a.s.q.bg, .int .u8 a.s.q.bb, .int .u8 a.s.q.fl, .bool a.s.org, .int .i64 a.s.s0, .int .i64 a.s.s1, .int .i64 a.s.act, .int .i64 a.q.fk, .int .u8 a.q.fi, .int .u8 a.q.fr, .int .u8 a.q.fg, .int .u8 a.q.fb, .int .i64 a.q.bk, .int .u8 a.q.bi, .int .u8 a.q.br, .int .u8 a.q.bg, .int .u8 a.q.bb, .int .u8 a.q.fl, .slice a.A a.L.length a.c]
@[go_sem] theorem av24_size (a : Act24) : (av24 a).size = 50 := by simp [av24]
theorem av24_all (a : Act24) : (av24 a).all (·.oneCell') = true := by simp [av24, Value.oneCell']
@[simp high, go_sem high] theorem av24_get0 (a : Act24) : (av24 a)[0]? = some (.int .i64 a.what) := by simp [av24]
@[simp high, go_sem high] theorem av24_get1 (a : Act24) : (av24 a)[1]? = some (.int .i64 a.n) := by simp [av24]
@[simp high, go_sem high] theorem av24_get2 (a : Act24) : (av24 a)[2]? = some (.int .i64 a.row) := by simp [av24]
@[simp high, go_sem high] theorem av24_get3 (a : Act24) : (av24 a)[3]? = some (.int .i64 a.col) := by simp [av24]
@[simp high, go_sem high] theorem av24_get8 (a : Act24) : (av24 a)[8]? = some (.int .i64 a.x.width) := by simp [av24]
@[simp high, go_sem high] theorem av24_get49 (a : Act24) : (av24 a)[49]? = some (.slice a.A a.L.length a.c) := by simp [av24]
theorem av24_put {w : World} {b o : Nat} {a : Act24} (h : w.rangeAt b o (av24 a).toList) : recAt w b (o + 2) 18 = some (pw a.row a.col a.x) := recAt_of (pw_size _ _ _) fun j v hv => by
 have hj : j < 18 := by have := (List.getElem?_eq_some_iff.1 hv).1; simpa [pw] using this
 have := h (2 + j) v (by rw [← hv, ← List.getElem?_drop]; rw [show ((av24 a).toList.drop 2)[j]? = (((av24 a).toList.drop 2).take 18)[j]? from by rw [List.getElem?_take, if_pos hj]]; rfl)
 rw [show o + 2 + j = o + (2 + j) by omega]; exact this
theorem av24_saved {w : World} {b o : Nat} {a : Act24} (h : w.rangeAt b o (av24 a).toList) : recAt w b (o + 20) 18 = some (sv a.s) := recAt_of (sv_size _) fun j v hv => by
 have hj : j < 18 := by have := (List.getElem?_eq_some_iff.1 hv).1; simpa [sv] using this
 have := h (20 + j) v (by rw [← hv, ← List.getElem?_drop]; rw [show ((av24 a).toList.drop 20)[j]? = (((av24 a).toList.drop 20).take 18)[j]? from by rw [List.getElem?_take, if_pos hj]]; rfl)
 rw [show o + 20 + j = o + (20 + j) by omega]; exact this
theorem av24_pen {w : World} {b o : Nat} {a : Act24} (h : w.rangeAt b o (av24 a).toList) : penAt w b (o + 38) = some a.q := penAt_of fun j v hv => by
 have hj : j < 11 := by have := (List.getElem?_eq_some_iff.1 hv).1; simpa [pv] using this
 have := h (38 + j) v (by rw [← hv, ← List.getElem?_drop]; rw [show ((av24 a).toList.drop 38)[j]? = (((av24 a).toList.drop 38).take 11)[j]? from by rw [List.getElem?_take, if_pos hj]]; rfl)
 rw [show o + 38 + j = o + (38 + j) by omega]; exact this
theorem Blk.act24 {w : World} {g : Nat} {t : TypeId} {a : Act24} (h : Blk w g t (av24 a)) : (∀ i, w.cell? ⟨g, i, none⟩ = (av24 a)[i]?) ∧ (∀ i, w.frozen? ⟨g, i, none⟩ = false) ∧ g < w.heap.size ∧ Proofs.YtdndoikgnohkkaaDoor.recAt w g 0 50 = some (av24 a) ∧ Proofs.YtdndoikgnohkkaaDoor.recAt w g 2 18 = some (pw a.row a.col a.x) ∧ Proofs.YtdndoikgnohkkaaDoor.recAt w g 20 18 = some (sv a.s) ∧ Proofs.YtdndoikgnohkkaaDoor.penAt w g 38 = some a.q :=
 ⟨h.cell, h.frozen, h.lt, h.recAt 50 (av24_size a), by have := av24_put h.range; simpa using this, by have := av24_saved h.range; simpa using this, by have := av24_pen h.range; simpa using this⟩
theorem act24_size : (Tryd.prog.info? 66).map (·.size) = some 50 := by kernel_rfl
@[go_sem] theorem store_av24_new {b : Nat} (w : World) (zs : Array Value) (c : Act24) (hb : b = w.heap.size) (hz : zs.size = 50) :
  (storeCells ⟨b, 0, none⟩ (av24 c).toList 0).run Tryd.prog (w.alloc (.cells zs 66)) = .ok () (w.alloc (.cells (av24 c) 66)) := by
 subst hb
 exact run_storeCells_new w 66 zs (av24 c) (by rw [act24_size]; rfl) hz (av24_all c)
end Go.Proofs.YtdndoikgnohkkaaDoor

namespace Go.Proofs.YtdndoikgnohkkaaDoor
open Go.RowKit

def entS (n : Int) (x : Saved) (q : Pen) (s : Pr) : Pr := if entE n x q s = 0 then entN n x q s else s
section
variable {w0 w : World} {os : List Ob} {p x : Nat} {s : Pr}
theorem Leave_er {E : Int} (n : Int) (q : Pen) (hE : lvE n q s = E) (h0 : ¬ E = 0) (hT : Tabs w0) (hS : Objs w0 w (pairO p s :: os)) :
  Calls Tryd.prog 23 #[.pointer (some ⟨p, 0, none⟩), .int .i64 n, .agg (pv q)] w fun e w' => e = .returned (.tuple #[.agg (sv saved0), .bool false, .int .i64 E]) ∧ Objs w0 w' (pairO p s :: os) := by
 have := Leave_no n q hT hS (by rw [hE]; exact h0)
 rw [hE] at this
 exact this
end
end Go.Proofs.YtdndoikgnohkkaaDoor

set_option linter.constructorNameAsVariable false
set_option maxRecDepth 100000
namespace Go.Proofs.YtdndoikgnohkkaaDoor
open Go.ChangeShapes Go.WideShapes Go.ChangeAt Go.RowKit Go.Deep Go.WideElems

section
variable {H : Type} {enc : TypeId × Value → H}

theorem trodAll_below {P : Program} (hl : laidOutB P = true) {W W' : World} (hb : Below W.heap.size W W') {sp : Nat → Bool} : ∀ (ts : List TypeId) (vs : List Value) (ds : List (DataW H)) (ps : List MemPlace), (∀ t ∈ ts, P.readableRec t = true ∧ t < P.types.size) →
  DataW.TrodAll enc P W 0 (fun _ => true) true ts vs ds ps → (∀ x ∈ ps, x.block < W.heap.size) → (∀ x ∈ ps, sp x.block = true) → DataW.TrodAll enc P W' 0 sp true ts vs ds ps
 | [], [], [], ps, _, h, _, _ => h
 | t :: ts, v :: vs, d :: ds, ps, ht, h, hlt, hs => by
  obtain ⟨p, q, h1, h2, rfl⟩ := h
  exact ⟨p, q, Trod_stays hl (ht t (by simp)).1 (ht t (by simp)).2 h1 (fun x hx => hb.same (hlt x (by simp [hx]))) (fun x hx => hs x (by simp [hx])),
   trodAll_below hl hb ts vs ds q (fun u hu => ht u (by simp [hu])) h2 (fun x hx => hlt x (by simp [hx])) (fun x hx => hs x (by simp [hx])), rfl⟩
 | [], _ :: _, _, _, _, h, _, _ => by cases h
 | [], [], _ :: _, _, _, h, _, _ => by cases h
 | _ :: _, [], _, _, _, h, _, _ => by cases h
 | _ :: _, _ :: _, [], _, _, h, _, _ => by cases h

theorem law_post {P : Program} {f : Func} {s : ChangeSpec} {W W' : World} {args : Array Value} {ds gs : List (DataW H)} {before : List MemPlace} {tb : TypeId} (hv : s.vars = []) (hl : laidOutB P = true)
  (hW : DataW.Whole enc P f.params.toList s.vars false W args.toList ds gs before) (hpar : ∀ t ∈ f.params.toList, P.readableRec t = true ∧ t < P.types.size)
  (hfn : gs = [] → (s.fn H (ds ++ gs)).results = [.lit (.bool true)] ∧ (s.fn H (ds ++ gs)).args = ds ∧ (s.fn H (ds ++ gs)).vars = []) (hr : f.resultTypes = #[tb]) (htb : P.underlying tb = some .bool) (hb : Below W.heap.size W W') :
  s.post enc P f false true false false W args (.bool true) W' := by
 have hlt : ∀ p ∈ before, p.block < W.heap.size := fun p hp => hW.lt p hp
 have hW' := hW
 obtain ⟨p, q, hA, hV, rfl, hfz, hnd⟩ := hW
 rw [hv] at hV
 obtain ⟨rfl, rfl⟩ := trodVars_none hV
 obtain ⟨f1, f2, f3⟩ := hfn rfl
 have hargs : ∀ sp : Nat → Bool, (∀ x ∈ p, sp x.block = true) → DataW.TrodAll enc P W' 0 sp true f.params.toList args.toList (s.fn H (ds ++ [])).args p := fun sp hs => by
  rw [f2]; exact trodAll_below hl hb _ _ _ _ hpar hA (fun x hx => hlt x (by simp [hx])) hs
 have hres : ∀ (b : Nat) (sp : Nat → Bool) (hd : Bool), DataW.TrodAll enc P W' b sp hd f.resultTypes.toList ((Value.bool true).resultList f.resultTypes.size) (s.fn H (ds ++ [])).results [] := fun b sp hd => by
  rw [f1, hr]; exact trodAll_cons_mk (shut_bool htb _) trodAll_mk0
 have hvars : ∀ sp : Nat → Bool, DataW.TrodVars enc P W' sp s.vars (s.fn H (ds ++ [])).vars [] := fun sp => by rw [hv, f3]; rfl
 have hold : ∀ x ∈ p, (fun b => decide (b < W.heap.size)) x.block = true := fun x hx => by simpa using hlt x (by simp [hx])
 refine ⟨ds, [], p ++ [], [], p, [], hW', hres _ _ _, hargs _ hold, hvars _, World.keptBut_mono (fun x hx => ⟨hx, ?_⟩) (hb.frame (· ∈ p ++ [])), fun h => by cases h⟩
 exact Or.inr (by simpa using hx)

section
variable {w : World} {base : Nat} {sp : Nat → Bool} {hd : Bool} {fuel : Nat} {cs : List Value} {x : DataW H × List MemPlace}
theorem cells_color : Tryd.prog.cellsOf 26 = 5 := by kernel_rfl
theorem cells_pen : Tryd.prog.cellsOf 29 = 11 := by kernel_rfl
theorem cells_cell : Tryd.prog.cellsOf 61 = 16 := by kernel_rfl
theorem cells_arr3 : Tryd.prog.cellsOf 59 = 3 := by kernel_rfl
theorem cells_i32 : Tryd.prog.cellsOf 21 = 1 := by kernel_rfl
theorem cells_int : Tryd.prog.cellsOf 3 = 1 := by kernel_rfl
theorem cells_u8 : Tryd.prog.cellsOf 5 = 1 := by kernel_rfl
theorem cells_kind : Tryd.prog.cellsOf 24 = 1 := by kernel_rfl
theorem cells_flags : Tryd.prog.cellsOf 27 = 1 := by kernel_rfl
theorem num_field {P : Program} {t : TypeId} {k : IntKind} {c : Value} {y : Option (DataW H × List MemPlace)} (ht : P.underlying t = some (.int k)) (hy : y.isSome = true) (h : DataW.trod enc P w base sp hd fuel t [c] = y) : ∃ n, c = .int k n := by
 obtain ⟨z, hz⟩ := Option.isSome_iff_exists.1 hy
 obtain ⟨n, hn, _⟩ := DataW.trod_int ht (h.trans hz)
 exact ⟨n, by simpa using hn⟩
theorem trod_color (h : DataW.trod enc Tryd.prog w base sp hd fuel 26 cs = some x) : ∃ k i r g b, cs = [.int .i64 k, .int .u8 i, .int .u8 r, .int .u8 g, .int .u8 b] := by
 obtain ⟨xs, n, _, _, hlen, hxl, hf⟩ := DataW.trod_struct Tryd.underlying26 h
 rw [cells_color] at hlen
 match cs, hlen, hf with
 | [c0, c1, c2, c3, c4], _, hf =>
  have h0 : DataW.trod enc Tryd.prog w base sp hd n 24 (([c0, c1, c2, c3, c4].drop 0).take (Tryd.prog.cellsOf 24)) = xs[0]? := hf 0 _ rfl
  have h1 : DataW.trod enc Tryd.prog w base sp hd n 5 (([c0, c1, c2, c3, c4].drop 1).take (Tryd.prog.cellsOf 5)) = xs[1]? := hf 1 _ rfl
  have h2 : DataW.trod enc Tryd.prog w base sp hd n 5 (([c0, c1, c2, c3, c4].drop 2).take (Tryd.prog.cellsOf 5)) = xs[2]? := hf 2 _ rfl
  have h3 : DataW.trod enc Tryd.prog w base sp hd n 5 (([c0, c1, c2, c3, c4].drop 3).take (Tryd.prog.cellsOf 5)) = xs[3]? := hf 3 _ rfl
  have h4 : DataW.trod enc Tryd.prog w base sp hd n 5 (([c0, c1, c2, c3, c4].drop 4).take (Tryd.prog.cellsOf 5)) = xs[4]? := hf 4 _ rfl
  simp only [cells_kind, cells_u8, List.drop_zero, List.drop_succ_cons, List.take_succ_cons, List.take_zero] at h0 h1 h2 h3 h4
  obtain ⟨k, rfl⟩ := num_field Tryd.underlying24 (by simp [hxl]) h0
  obtain ⟨i, rfl⟩ := num_field Tryd.underlying5 (by simp [hxl]) h1
  obtain ⟨r, rfl⟩ := num_field Tryd.underlying5 (by simp [hxl]) h2
  obtain ⟨g, rfl⟩ := num_field Tryd.underlying5 (by simp [hxl]) h3
  obtain ⟨b, rfl⟩ := num_field Tryd.underlying5 (by simp [hxl]) h4
  exact ⟨k, i, r, g, b, rfl⟩
theorem some_of {α : Type} {y : Option α} (h : y.isSome = true) : ∃ z, y = some z := Option.isSome_iff_exists.1 h
theorem trod_pen (h : DataW.trod enc Tryd.prog w base sp hd fuel 29 cs = some x) : ∃ q : Pen, cs = (pv q).toList := by
 obtain ⟨xs, n, _, _, hlen, hxl, hf⟩ := DataW.trod_struct Tryd.underlying29 h
 rw [cells_pen] at hlen
 have h0 : DataW.trod enc Tryd.prog w base sp hd n 26 ((cs.drop 0).take (Tryd.prog.cellsOf 26)) = xs[0]? := hf 0 _ rfl
 have h1 : DataW.trod enc Tryd.prog w base sp hd n 26 ((cs.drop 5).take (Tryd.prog.cellsOf 26)) = xs[1]? := hf 1 _ rfl
 have h2 : DataW.trod enc Tryd.prog w base sp hd n 27 ((cs.drop 10).take (Tryd.prog.cellsOf 27)) = xs[2]? := hf 2 _ rfl
 obtain ⟨z0, e0⟩ := some_of (show (xs[0]?).isSome = true by simp [hxl])
 obtain ⟨z1, e1⟩ := some_of (show (xs[1]?).isSome = true by simp [hxl])
 simp only [cells_color, cells_flags] at h0 h1 h2
 obtain ⟨k, i, r, g, b, hc0⟩ := trod_color (h0.trans e0)
 obtain ⟨k', i', r', g', b', hc1⟩ := trod_color (h1.trans e1)
 match cs, hlen with
 | [c0, c1, c2, c3, c4, c5, c6, c7, c8, c9, c10], _ =>
  simp only [List.drop_zero, List.drop_succ_cons, List.take_succ_cons, List.take_zero] at h2 hc0 hc1
  obtain ⟨fl, rfl⟩ := num_field Tryd.underlying27 (by simp [hxl]) h2
  simp only [List.cons.injEq, and_true] at hc0 hc1
  obtain ⟨rfl, rfl, rfl, rfl, rfl⟩ := hc0
  obtain ⟨rfl, rfl, rfl, rfl, rfl⟩ := hc1
  exact ⟨⟨k, i, r, g, b, k', i', r', g', b', fl⟩, rfl⟩
theorem trod_arr3 (h : DataW.trod enc Tryd.prog w base sp hd fuel 59 cs = some x) : ∃ a b c, cs = [.int .i32 a, .int .i32 b, .int .i32 c] := by
 obtain ⟨xs, n, _, _, hlen, hxl, hf⟩ := DataW.trod_array Tryd.underlying59 h
 rw [cells_arr3] at hlen
 match cs, hlen with
 | [c0, c1, c2], _ =>
  have h0 := hf 0 (by omega)
  have h1 := hf 1 (by omega)
  have h2 := hf 2 (by omega)
  simp only [cells_i32, Nat.zero_mul, Nat.one_mul, Nat.mul_one, List.drop_zero, List.drop_succ_cons, List.take_succ_cons, List.take_zero] at h0 h1 h2
  obtain ⟨a, rfl⟩ := num_field Tryd.underlying21 (by simp [hxl]) h0
  obtain ⟨b, rfl⟩ := num_field Tryd.underlying21 (by simp [hxl]) h1
  obtain ⟨c, rfl⟩ := num_field Tryd.underlying21 (by simp [hxl]) h2
  exact ⟨a, b, c, rfl⟩
theorem trod_cell (h : DataW.trod enc Tryd.prog w base sp hd fuel 61 cs = some x) : ∃ q : Cell, cs = (cv q).toList := by
 obtain ⟨xs, n, _, _, hlen, hxl, hf⟩ := DataW.trod_struct Tryd.underlying61 h
 rw [cells_cell] at hlen
 have h0 : DataW.trod enc Tryd.prog w base sp hd n 21 ((cs.drop 0).take (Tryd.prog.cellsOf 21)) = xs[0]? := hf 0 _ rfl
 have h1 : DataW.trod enc Tryd.prog w base sp hd n 59 ((cs.drop 1).take (Tryd.prog.cellsOf 59)) = xs[1]? := hf 1 _ rfl
 have h2 : DataW.trod enc Tryd.prog w base sp hd n 3 ((cs.drop 4).take (Tryd.prog.cellsOf 3)) = xs[2]? := hf 2 _ rfl
 have h3 : DataW.trod enc Tryd.prog w base sp hd n 29 ((cs.drop 5).take (Tryd.prog.cellsOf 29)) = xs[3]? := hf 3 _ rfl
 obtain ⟨z1, e1⟩ := some_of (show (xs[1]?).isSome = true by simp [hxl])
 obtain ⟨z3, e3⟩ := some_of (show (xs[3]?).isSome = true by simp [hxl])
 simp only [cells_i32, cells_arr3, cells_int, cells_pen] at h0 h1 h2 h3
 obtain ⟨m0, m1, m2, hm⟩ := trod_arr3 (h1.trans e1)
 obtain ⟨q, hq⟩ := trod_pen (h3.trans e3)
 match cs, hlen with
 | [c0, c1, c2, c3, c4, c5, c6, c7, c8, c9, c10, c11, c12, c13, c14, c15], _ =>
  simp only [List.drop_zero, List.drop_succ_cons, List.take_succ_cons, List.take_zero] at h0 h2 hm hq
  obtain ⟨r, rfl⟩ := num_field Tryd.underlying21 (by simp [hxl]) h0
  obtain ⟨wd, rfl⟩ := num_field Tryd.underlying3 (by simp [hxl]) h2
  simp only [List.cons.injEq, and_true] at hm
  obtain ⟨rfl, rfl, rfl⟩ := hm
  simp only [pv, List.cons.injEq, and_true] at hq
  obtain ⟨rfl, rfl, rfl, rfl, rfl, rfl, rfl, rfl, rfl, rfl, rfl⟩ := hq
  exact ⟨⟨r, m0, m1, m2, wd, q⟩, rfl⟩
end
theorem trod_cells {w : World} {fuel : Nat} {cs : List Value} {x : DataW H × List MemPlace} {hd : Bool} (h : DataW.trod enc Tryd.prog w 0 (fun _ => true) hd fuel 84 cs = some x) : ∃ A c l, cs = [.slice A l.length c] ∧ RdC w A c l ∧ c ≤ maxLen := by
 rcases open_slice Tryd.underlying84 h with ⟨rfl, _⟩ | ⟨a, len, cap, m, n, D, Pl, rfl, _, hl, hm, hmm, _, hi⟩
 ·exact ⟨none, 0, [], rfl, RdC.nil _, by simp [maxLen]⟩
 ·simp only [if_true] at hmm
  subst hmm
  rw [cells_cell] at hi
  have hall : ∀ i, i < len → ∃ c : Cell, ∀ j, j < 16 → w.cell? ((a.add (i * 16)).add j) = (cv c)[j]? := by
   intro i hlt
   obtain ⟨cs', hc, ht⟩ := hi i (by omega)
   obtain ⟨_, hcl, hat⟩ := World.cells?_some hc
   obtain ⟨c, rfl⟩ := trod_cell ht
   exact ⟨c, fun j hj => by rw [hat j hj]; simp⟩
  have hl2 : ∃ l : List Cell, l.length = len ∧ ∀ i (h : i < l.length), ∀ j, j < 16 → w.cell? ((a.add (i * 16)).add j) = (cv l[i])[j]? := by
   refine ⟨(List.range len).map fun i => if h : i < len then (hall i h).choose else cell0, by simp, fun i h j hj => ?_⟩
   have hlt : i < len := by simpa using h
   simp only [List.getElem_map, List.getElem_range, hlt, dif_pos]
   exact (hall i hlt).choose_spec j hj
  obtain ⟨l, rfl, hcell⟩ := hl2
  refine ⟨some a, m, l, rfl, ⟨hl, (fun h => by cases h), fun hn => ?_⟩, hm⟩
  have h00 := hcell 0 hn 0 (by omega)
  simp only [Nat.zero_mul, Addr.add_zero', cv_get0] at h00
  obtain ⟨b, off, spot⟩ := a
  have hspot : spot = none := by
   cases spot with
   | none => rfl
   | some q => simp [World.cell?] at h00; split at h00 <;> simp at h00
  subst hspot
  refine ⟨b, off, rfl, block_lt_of_cell h00, fun j v hv => ?_⟩
  have hj : j < (flat l).length := (List.getElem?_eq_some_iff.1 hv).1
  rw [flat_length] at hj
  have hk : j / 16 < l.length := by omega
  have := hcell (j / 16) hk (j % 16) (by omega)
  rw [add_at, add_at] at this
  rw [show off + j = off + j / 16 * 16 + j % 16 by omega, this, ← hv, ← flat_at l (j / 16) (j % 16) l[j / 16] (by simp [hk]) (by omega)]
  congr 1; omega
end
end Go.Proofs.YtdndoikgnohkkaaDoor

set_option linter.constructorNameAsVariable false
set_option maxRecDepth 100000
namespace Go.Proofs.YtdndoikgnohkkaaDoor
open Go.ChangeShapes Go.WideShapes Go.ChangeAt Go.RowKit Go.Deep Go.WideElems

section
variable {H : Type} {enc : TypeId × Value → H}
theorem cells_line : Tryd.prog.cellsOf 86 = 2 := by kernel_rfl
theorem cells_slice : Tryd.prog.cellsOf 84 = 1 := by kernel_rfl
theorem cells_bool : Tryd.prog.cellsOf 4 = 1 := by kernel_rfl
theorem trod_line {w : World} {fuel : Nat} {cs : List Value} {x : DataW H × List MemPlace} {hd : Bool} (h : DataW.trod enc Tryd.prog w 0 (fun _ => true) hd fuel 86 cs = some x) : ∃ A c l s, cs = [.slice A l.length c, .bool s] ∧ RdC w A c l ∧ c ≤ maxLen := by
 obtain ⟨xs, n, _, _, hlen, hxl, hf⟩ := DataW.trod_struct Tryd.underlying86 h
 rw [cells_line] at hlen
 match cs, hlen, hf with
 | [c0, c1], _, hf =>
  have h0 : DataW.trod enc Tryd.prog w 0 (fun _ => true) hd n 84 (([c0, c1].drop 0).take (Tryd.prog.cellsOf 84)) = xs[0]? := hf 0 _ rfl
  have h1 : DataW.trod enc Tryd.prog w 0 (fun _ => true) hd n 4 (([c0, c1].drop 1).take (Tryd.prog.cellsOf 4)) = xs[1]? := hf 1 _ rfl
  obtain ⟨z0, e0⟩ := some_of (show (xs[0]?).isSome = true by simp [hxl])
  obtain ⟨z1, e1⟩ := some_of (show (xs[1]?).isSome = true by simp [hxl])
  simp only [cells_slice, cells_bool, List.drop_zero, List.drop_succ_cons, List.take_succ_cons, List.take_zero] at h0 h1
  obtain ⟨A, c, l, he, hr, hm⟩ := trod_cells (h0.trans e0)
  obtain ⟨b, hb, _⟩ := DataW.trod_bool Tryd.underlying4 (h1.trans e1)
  simp only [List.cons.injEq, and_true] at he hb
  subst he
  subst hb
  exact ⟨A, c, l, b, rfl, hr, hm⟩
end
end Go.Proofs.YtdndoikgnohkkaaDoor

set_option linter.constructorNameAsVariable false
set_option maxRecDepth 100000
namespace Go.Proofs.YtdndoikgnohkkaaDoor
open Go.ChangeShapes Go.WideShapes Go.ChangeAt Go.RowKit Go.Deep Go.WideElems

section
variable {H : Type} {enc : TypeId × Value → H}
theorem cells_cursor : Tryd.prog.cellsOf 23 = 3 := by kernel_rfl
theorem trod_cursor {w : World} {base : Nat} {sp : Nat → Bool} {fuel : Nat} {cs : List Value} {x : DataW H × List MemPlace} {hd : Bool} (h : DataW.trod enc Tryd.prog w base sp hd fuel 23 cs = some x) : ∃ r c b, cs = [.int .i64 r, .int .i64 c, .bool b] := by
 obtain ⟨xs, n, _, _, hlen, hxl, hf⟩ := DataW.trod_struct Tryd.underlying23 h
 rw [cells_cursor] at hlen
 match cs, hlen, hf with
 | [c0, c1, c2], _, hf =>
  have h0 : DataW.trod enc Tryd.prog w base sp hd n 3 (([c0, c1, c2].drop 0).take (Tryd.prog.cellsOf 3)) = xs[0]? := hf 0 _ rfl
  have h1 : DataW.trod enc Tryd.prog w base sp hd n 3 (([c0, c1, c2].drop 1).take (Tryd.prog.cellsOf 3)) = xs[1]? := hf 1 _ rfl
  have h2 : DataW.trod enc Tryd.prog w base sp hd n 4 (([c0, c1, c2].drop 2).take (Tryd.prog.cellsOf 4)) = xs[2]? := hf 2 _ rfl
  obtain ⟨z2, e2⟩ := some_of (show (xs[2]?).isSome = true by simp [hxl])
  simp only [cells_int, cells_bool, List.drop_zero, List.drop_succ_cons, List.take_succ_cons, List.take_zero] at h0 h1 h2
  obtain ⟨r, rfl⟩ := num_field Tryd.underlying3 (by simp [hxl]) h0
  obtain ⟨c, rfl⟩ := num_field Tryd.underlying3 (by simp [hxl]) h1
  obtain ⟨b, hb, _⟩ := DataW.trod_bool Tryd.underlying4 (h2.trans e2)
  simp only [List.cons.injEq, and_true] at hb
  subst hb
  exact ⟨r, c, b, rfl⟩
theorem trod_recs {V : Type} [Inhabited V] {Pr : V → Prop} {w : World} {fuel : Nat} {cs : List Value} {x : DataW H × List MemPlace} {hd : Bool} {tS tE : TypeId} {k : Nat} (av : V → Array Value) (hu : Tryd.prog.underlying tS = some (.slice tE)) (hk : Tryd.prog.cellsOf tE = k) (hk0 : 0 < k) (hav : ∀ a, (av a).size = k)
  (helem : ∀ (fuel : Nat) (cs' : List Value) (x' : DataW H × List MemPlace), DataW.trod enc Tryd.prog w 0 (fun _ => true) hd fuel tE cs' = some x' → ∃ a, cs' = (av a).toList ∧ Pr a)
  (h : DataW.trod enc Tryd.prog w 0 (fun _ => true) hd fuel tS cs = some x) : ∃ (A : Option Addr) (c : Nat) (l : List V), cs = [.slice A l.length c] ∧ RdRec w A c k (l.map av) ∧ c ≤ maxLen ∧ ∀ a ∈ l, Pr a := by
 rcases open_slice hu h with ⟨rfl, _⟩ | ⟨a, len, cap, m, n, D, Pl, rfl, _, hl, hm, hmm, _, hi⟩
 ·exact ⟨none, 0, [], rfl, ⟨by simp, fun _ => rfl, fun h => by simp at h⟩, by simp [maxLen], fun a ha => by simp at ha⟩
 ·simp only [if_true] at hmm
  subst hmm
  rw [hk] at hi
  have hall : ∀ i, i < len → ∃ c : V, Pr c ∧ ∀ j, j < k → w.cell? ((a.add (i * k)).add j) = (av c)[j]? := by
   intro i hlt
   obtain ⟨cs', hc, ht⟩ := hi i (by omega)
   obtain ⟨_, hcl, hat⟩ := World.cells?_some hc
   obtain ⟨c, rfl, hp⟩ := helem _ _ _ ht
   exact ⟨c, hp, fun j hj => by rw [hat j hj]; simp⟩
  have hl2 : ∃ l : List V, l.length = len ∧ (∀ i (h : i < l.length), ∀ j, j < k → w.cell? ((a.add (i * k)).add j) = (av l[i])[j]?) ∧ ∀ c ∈ l, Pr c := by
   refine ⟨(List.range len).map fun i => if h : i < len then (hall i h).choose else default, by simp, fun i h j hj => ?_, fun c hc => ?_⟩
   ·have hlt : i < len := by simpa using h
    simp only [List.getElem_map, List.getElem_range, hlt, dif_pos]
    exact (hall i hlt).choose_spec.2 j hj
   ·obtain ⟨i, hi2, rfl⟩ := List.mem_map.1 hc
    have hlt : i < len := by simpa using hi2
    rw [dif_pos hlt]
    exact (hall i hlt).choose_spec.1
  obtain ⟨l, rfl, hcell, hpr⟩ := hl2
  refine ⟨some a, m, l, rfl, ⟨by simpa using hl, (fun h => by cases h), fun hn => ?_⟩, hm, hpr⟩
  have hn' : 0 < l.length := by simpa using hn
  have h00 := hcell 0 hn' 0 hk0
  have hsz : 0 < (av l[0]).size := by rw [hav]; exact hk0
  rw [Nat.zero_mul, Addr.add_zero', Addr.add_zero', Array.getElem?_eq_getElem hsz] at h00
  obtain ⟨b, off, spot⟩ := a
  have hspot : spot = none := by
   cases spot with
   | none => rfl
   | some q => simp [World.cell?] at h00; split at h00 <;> simp at h00
  subst hspot
  refine ⟨b, off, rfl, block_lt_of_cell h00, fun i r hr => ?_⟩
  rw [List.getElem?_map] at hr
  cases hli : l[i]? with
  | none => rw [hli] at hr; cases hr
  | some y =>
   rw [hli] at hr
   simp only [Option.map_some, Option.some.injEq] at hr
   subst hr
   obtain ⟨hil, hy⟩ := List.getElem?_eq_some_iff.1 hli
   refine recAt_of (hav y) (fun j v hv => ?_)
   have hj : j < k := by have := (List.getElem?_eq_some_iff.1 hv).1; simp [hav] at this; exact this
   have := hcell i hil j hj
   rw [add_at, add_at] at this
   rw [this, hy]
   simpa using hv
theorem open_recs {V : Type} [Inhabited V] {Pr : V → Prop} {v : Value} {w : World} {r : Reach} {b0 : Nat} {hd : Bool} {d : DataW H} {p : List MemPlace} {tS tE : TypeId} {k : Nat} (av : V → Array Value) (hu : Tryd.prog.underlying tS = some (.slice tE)) (hk : Tryd.prog.cellsOf tE = k) (hk0 : 0 < k) (hav : ∀ a, (av a).size = k)
  (helem : ∀ (fuel : Nat) (cs' : List Value) (x' : DataW H × List MemPlace), DataW.trod enc Tryd.prog w 0 (fun _ => true) hd fuel tE cs' = some x' → ∃ a, cs' = (av a).toList ∧ Pr a)
  (hv : Value.okWide Tryd.prog w r b0 tS v) (h : DataW.Trod enc Tryd.prog w 0 (fun _ => true) hd tS v d p) : ∃ (A : Option Addr) (c : Nat) (l : List V), v = .slice A l.length c ∧ RdRec w A c k (l.map av) ∧ c ≤ maxLen ∧ ∀ a ∈ l, Pr a := by
 obtain ⟨a0, n, c, rfl⟩ := okWide_slice hu hv
 obtain ⟨fuel, hf⟩ := h
 obtain ⟨A, c', l, he, hr⟩ := trod_recs av hu hk hk0 hav helem hf
 exact ⟨A, c', l, by simpa [Value.cells] using he, hr⟩
end
end Go.Proofs.YtdndoikgnohkkaaDoor

set_option linter.constructorNameAsVariable false
set_option maxRecDepth 100000
namespace Go.Proofs.YtdndoikgnohkkaaDoor
open Go.ChangeShapes Go.WideShapes Go.ChangeAt Go.RowKit Go.Deep Go.WideElems

section
variable {H : Type} {enc : TypeId × Value → H}
end
end Go.Proofs.YtdndoikgnohkkaaDoor

set_option linter.constructorNameAsVariable false
set_option maxRecDepth 100000
namespace Go.Proofs.YtdndoikgnohkkaaDoor
open Go.ChangeShapes Go.WideShapes Go.ChangeAt Go.RowKit Go.Deep Go.WideElems

theorem list1 {α : Type} {n : Nat} {l : List α} (h : l.length = n + 1) : ∃ a r, l = a :: r ∧ r.length = n := by cases l with | nil => simp at h | cons a r => exact ⟨a, r, rfl, by simpa using h⟩
instance : Inhabited Act14 := ⟨⟨0, 0, 0, 0, 0, cell0, none, 0, [], false, pen0⟩⟩
section
variable {H : Type} {enc : TypeId × Value → H}
theorem cells_cell14 : Tryd.prog.cellsOf 61 = 16 := by kernel_rfl
end
structure ALine where
 A : Option Addr
 c : Nat
 cs : List Cell
 s : Bool
instance : Inhabited ALine := ⟨⟨none, 0, [], false⟩⟩
def alv (a : ALine) : Array Value := #[.slice a.A a.cs.length a.c, .bool a.s]
theorem alv_size (a : ALine) : (alv a).size = 2 := rfl
theorem rdl_of {w : World} {A : Option Addr} {c : Nat} {l : List ALine} (h : RdRec w A c 2 (l.map alv)) (hp : ∀ a ∈ l, RdC w a.A a.c a.cs ∧ a.c ≤ maxLen) : RdL w A c (l.map fun a => (a.cs, a.s)) := by
 refine ⟨by simpa using h.1, h.2.1, fun hn => ?_⟩
 obtain ⟨b, off, rfl, hz, hr⟩ := h.2.2 (by simpa using hn)
 refine ⟨b, off, rfl, hz, fun i x hx => ?_⟩
 rw [List.getElem?_map] at hx
 cases hi : l[i]? with
 | none => rw [hi] at hx; cases hx
 | some a =>
  rw [hi] at hx
  simp only [Option.map_some, Option.some.injEq] at hx
  subst hx
  have hg := range_of_recAt (hr i (alv a) (by simp [hi]))
  refine ⟨a.A, a.c, ?_, ?_, (hp a (List.mem_of_getElem? hi)).1⟩
  ·have := hg.2 0 _ rfl; simpa using this
  ·have := hg.2 1 _ rfl; simpa using this
section
variable {H : Type} {enc : TypeId × Value → H}
end
end Go.Proofs.YtdndoikgnohkkaaDoor

set_option linter.constructorNameAsVariable false
set_option maxRecDepth 100000
namespace Go.Proofs.YtdndoikgnohkkaaDoor
open Go.ChangeShapes Go.WideShapes Go.ChangeAt Go.RowKit Go.Deep Go.WideElems

instance : Inhabited Saved := ⟨saved0⟩
section
variable {H : Type} {enc : TypeId × Value → H}
theorem cells_chk : Tryd.prog.cellsOf 30 = 1 := by kernel_rfl
theorem cells_arrCh : Tryd.prog.cellsOf 31 = 2 := by kernel_rfl
theorem cells_charsets : Tryd.prog.cellsOf 33 = 3 := by kernel_rfl
theorem cells_saved : Tryd.prog.cellsOf 35 = 18 := by kernel_rfl
theorem trod_arrCh {w : World} {base : Nat} {sp : Nat → Bool} {fuel : Nat} {cs : List Value} {x : DataW H × List MemPlace} {hd : Bool} (h : DataW.trod enc Tryd.prog w base sp hd fuel 31 cs = some x) : ∃ a b, cs = [.int .i64 a, .int .i64 b] := by
 obtain ⟨xs, n, _, _, hlen, hxl, hf⟩ := DataW.trod_array Tryd.underlying31 h
 rw [cells_arrCh] at hlen
 match cs, hlen with
 | [c0, c1], _ =>
  have h0 := hf 0 (by omega)
  have h1 := hf 1 (by omega)
  simp only [cells_chk, Nat.zero_mul, Nat.one_mul, Nat.mul_one, List.drop_zero, List.drop_succ_cons, List.take_succ_cons, List.take_zero] at h0 h1
  obtain ⟨a, rfl⟩ := num_field Tryd.underlying30 (by simp [hxl]) h0
  obtain ⟨b, rfl⟩ := num_field Tryd.underlying30 (by simp [hxl]) h1
  exact ⟨a, b, rfl⟩
theorem trod_charsets {w : World} {base : Nat} {sp : Nat → Bool} {fuel : Nat} {cs : List Value} {x : DataW H × List MemPlace} {hd : Bool} (h : DataW.trod enc Tryd.prog w base sp hd fuel 33 cs = some x) : ∃ a b c, cs = [.int .i64 a, .int .i64 b, .int .i64 c] := by
 obtain ⟨xs, n, _, _, hlen, hxl, hf⟩ := DataW.trod_struct Tryd.underlying33 h
 rw [cells_charsets] at hlen
 match cs, hlen, hf with
 | [c0, c1, c2], _, hf =>
  have h0 : DataW.trod enc Tryd.prog w base sp hd n 31 (([c0, c1, c2].drop 0).take (Tryd.prog.cellsOf 31)) = xs[0]? := hf 0 _ rfl
  have h1 : DataW.trod enc Tryd.prog w base sp hd n 3 (([c0, c1, c2].drop 2).take (Tryd.prog.cellsOf 3)) = xs[1]? := hf 1 _ rfl
  obtain ⟨z0, e0⟩ := some_of (show (xs[0]?).isSome = true by simp [hxl])
  simp only [cells_int, cells_arrCh, List.drop_zero, List.drop_succ_cons, List.take_succ_cons, List.take_zero] at h0 h1
  obtain ⟨a, b, hab⟩ := trod_arrCh (h0.trans e0)
  obtain ⟨c, rfl⟩ := num_field Tryd.underlying3 (by simp [hxl]) h1
  simp only [List.cons.injEq, and_true] at hab
  obtain ⟨rfl, rfl⟩ := hab
  exact ⟨a, b, c, rfl⟩
theorem trod_saved {w : World} {base : Nat} {sp : Nat → Bool} {fuel : Nat} {cs : List Value} {x : DataW H × List MemPlace} {hd : Bool} (h : DataW.trod enc Tryd.prog w base sp hd fuel 35 cs = some x) : ∃ s : Saved, cs = (sv s).toList := by
 obtain ⟨xs, n, _, _, hlen, hxl, hf⟩ := DataW.trod_struct Tryd.underlying35 h
 rw [cells_saved] at hlen
 have h0 : DataW.trod enc Tryd.prog w base sp hd n 23 ((cs.drop 0).take (Tryd.prog.cellsOf 23)) = xs[0]? := hf 0 _ rfl
 have h1 : DataW.trod enc Tryd.prog w base sp hd n 29 ((cs.drop 3).take (Tryd.prog.cellsOf 29)) = xs[1]? := hf 1 _ rfl
 have h2 : DataW.trod enc Tryd.prog w base sp hd n 4 ((cs.drop 14).take (Tryd.prog.cellsOf 4)) = xs[2]? := hf 2 _ rfl
 have h3 : DataW.trod enc Tryd.prog w base sp hd n 33 ((cs.drop 15).take (Tryd.prog.cellsOf 33)) = xs[3]? := hf 3 _ rfl
 obtain ⟨z0, e0⟩ := some_of (show (xs[0]?).isSome = true by simp [hxl])
 obtain ⟨z1, e1⟩ := some_of (show (xs[1]?).isSome = true by simp [hxl])
 obtain ⟨z2, e2⟩ := some_of (show (xs[2]?).isSome = true by simp [hxl])
 obtain ⟨z3, e3⟩ := some_of (show (xs[3]?).isSome = true by simp [hxl])
 simp only [cells_cursor, cells_pen, cells_bool, cells_charsets] at h0 h1 h2 h3
 obtain ⟨ro, co, pe, hc⟩ := trod_cursor (h0.trans e0)
 obtain ⟨q, hq⟩ := trod_pen (h1.trans e1)
 obtain ⟨bo, hb, _⟩ := DataW.trod_bool Tryd.underlying4 (h2.trans e2)
 obtain ⟨sa, sb, ac, hs⟩ := trod_charsets (h3.trans e3)
 match cs, hlen with
 | [c0, c1, c2, c3, c4, c5, c6, c7, c8, c9, c10, c11, c12, c13, c14, c15, c16, c17], _ =>
  simp only [List.drop_zero, List.drop_succ_cons, List.take_succ_cons, List.take_zero] at hc hq hb hs
  simp only [List.cons.injEq, and_true] at hc hb hs
  obtain ⟨rfl, rfl, rfl⟩ := hc
  subst hb
  obtain ⟨rfl, rfl, rfl⟩ := hs
  simp only [pv, List.cons.injEq, and_true] at hq
  obtain ⟨rfl, rfl, rfl, rfl, rfl, rfl, rfl, rfl, rfl, rfl, rfl⟩ := hq
  exact ⟨⟨ro, co, pe, q, bo, sa, sb, ac⟩, rfl⟩
end
end Go.Proofs.YtdndoikgnohkkaaDoor

namespace Go.Proofs.YtdndoikgnohkkaaDoor
open Go.RowKit

@[go_sem] theorem fill_keep (a n : Int) (s : Saved) : Array.foldl (fun cs x => cs.setIfInBounds (20 + x.snd) x.fst) (#[.int .i64 a, .int .i64 n, .int .i64 0, .int .i64 0, .int .i32 0, .int .i32 0, .int .i32 0, .int .i32 0, .int .i64 0, .int .i64 0, .int .u8 0, .int .u8 0, .int .u8 0, .int .u8 0, .int .i64 0, .int .u8 0, .int .u8 0, .int .u8 0, .int .u8 0, .int .u8 0, .int .i64 0, .int .i64 0, .bool false, .int .i64 0, .int .u8 0, .int .u8 0, .int .u8 0, .int .u8 0, .int .i64 0, .int .u8 0, .int .u8 0, .int .u8 0, .int .u8 0, .int .u8 0, .bool false, .int .i64 0, .int .i64 0, .int .i64 0, .int .i64 0, .int .u8 0, .int .u8 0, .int .u8 0, .int .u8 0, .int .i64 0, .int .u8 0, .int .u8 0, .int .u8 0, .int .u8 0, .int .u8 0, .slice none 0 0] : Array Value) (sv s).zipIdx 0 18 = av24 ⟨a, n, 0, 0, cell0, s, pen0, none, 0, []⟩ := by
 simp [sv, av24, Array.zipIdx, cell0, pen0]
end Go.Proofs.YtdndoikgnohkkaaDoor

namespace Go.Proofs.YtdndoikgnohkkaaDoor
open Go.RowKit

theorem hdrs_take {bs : List Value} {L : List Ln} (h : bs.length = L.length) {R : Nat} (hR : R ≤ L.length) : hdrs (bs.take R) (L.take R) = (hdrs bs L).take (R * 2) := by
 have h1 : hdrs bs L = hdrs (bs.take R) (L.take R) ++ hdrs (bs.drop R) (L.drop R) := by
  rw [← hdrs_append (by simp [h])]
  simp
 rw [h1, List.take_append_of_le_length (by rw [hdrs_length (by simp [h])]; simp; omega)]
 exact (List.take_of_length_le (by rw [hdrs_length (by simp [h])]; simp; omega)).symm
theorem own_prefix {w : World} {B k n m g c : Nat} {t : TypeId} {xs : List Value} (h : w.ownsRow B t k (.slice (some ⟨g, 0, none⟩) n c) n xs) (hm : m ≤ n) : w.ownsRow B t k (.slice (some ⟨g, 0, none⟩) m c) m (xs.take (m * k)) := by
 obtain ⟨hl, hb, hnc, hmx, cur, hg, hsz, htk⟩ := own_parts h
 have hmk : m * k ≤ xs.length := by rw [hl]; exact Nat.mul_le_mul_right k hm
 refine own_mk (by simp; omega) hb (by omega) hmx hg hsz ?_
 rw [List.length_take, Nat.min_eq_left hmk]
 conv => rhs; rw [← htk, List.take_take, Nat.min_eq_left hmk]
section
variable {w0 w : World} {os : List Ob} {L : List Ln}
theorem Objs.cutLines {k g n c R : Nat} (hS : Objs w0 w os) (hk : os[k]? = some (.lines (.slice (some ⟨g, 0, none⟩) n c) L)) (hR : R ≤ L.length) : Objs w0 w (os.set k (.lines (.slice (some ⟨g, 0, none⟩) R c) (L.take R))) := by
 refine hS.upd hk (fun F hF => ?_)
 obtain ⟨bs, h1, h2⟩ := hF
 obtain rfl : n = L.length := by obtain ⟨A', c', e, -⟩ := own_form h1.own; simp only [Value.slice.injEq] at e; exact e.2.1
 have hsub : ∀ b, LF (.slice (some ⟨g, 0, none⟩) R c) (bs.take R) none b → LF (.slice (some ⟨g, 0, none⟩) L.length c) bs none b := fun b hb => by
  rcases hb with hb | ⟨i, x, hi, hx, hb⟩
  ·exact .inl hb
  ·rw [List.getElem?_take] at hx
   split at hx
   ·exact .inr ⟨i, x, hi, hx, hb⟩
   ·cases hx
 refine ⟨LF (.slice (some ⟨g, 0, none⟩) R c) (bs.take R) none, Chg.refl _ _, ⟨bs.take R, ⟨by simp [h1.len], ?_, fun i b l hi hb hl => ?_, fun i j b d y hb hd hby hdy => ?_⟩, fun _ => Iff.rfl⟩, fun b hb => .inl ((h2 b).2 (hsub b hb))⟩
 ·have := own_prefix h1.own hR
  rw [← hdrs_take h1.len hR] at this
  simpa [Nat.min_eq_left hR] using this
 ·rw [List.getElem?_take] at hb hl
  split at hb
  ·rename_i hlt
   rw [if_pos hlt] at hl
   exact h1.rows i b l hi hb hl
  ·cases hb
 ·rw [List.getElem?_take] at hb hd
  split at hb
  ·split at hd
   ·exact h1.dist i j b d y hb hd hby hdy
   ·cases hd
  ·cases hb
end
end Go.Proofs.YtdndoikgnohkkaaDoor

namespace Go.Proofs.YtdndoikgnohkkaaDoor
open Go.RowKit

theorem fit_snoc {Ls : List Ln} {i : Nat} {f : Ln → Ln} {x : List Cell} {s : Bool} (h : i < Ls.length) (hx : f Ls[i] = (x, s)) : (Ls.take i).map f ++ [(x, s)] = (Ls.take (i + 1)).map f := by
 rw [List.take_add_one, List.getElem?_eq_getElem h, List.map_append, ← hx]; rfl
set_option maxRecDepth 100000 in
set_option maxHeartbeats 4000000 in
theorem gridOf_yes (A : Option Addr) (c : Nat) (Ls : List Ln) (cols : Nat) (w : World) (hT : Tabs w) (ha : RdL w A c Ls) (h1 : 1 ≤ cols) (h2 : cols ≤ 1000) (h3 : 1 ≤ Ls.length) (h4 : Ls.length ≤ 1000) (hx : ∀ l ∈ Ls, l.1.length ≤ 100000) (hv : ∀ l ∈ Ls, lineOk l.1 = true) :
  Calls Tryd.prog 24 #[.int .i64 cols, .slice A Ls.length c] w fun e w' => ∃ p, e = .returned (.tuple #[.pointer (some ⟨p, 0, none⟩), .int .i64 0]) ∧ Objs w w' [.grid p 83 cols (Ls.map (fun l : Ln => (fitTo cols l.1, l.2)))] := by
 have HT := Lib.hid hT
 have HA := Lib.hid ha
 have HX := Lib.hid hx
 have HV := Lib.hid hv
 clear hT ha hx hv
 go_enter Tryd.func24, Tryd.ntmps24
 go_wp2_with fail
 refine at_objsC (objs_start w).alloc1 (fun W S1 => ?_)
 generalize w.heap.size = p at S1 ⊢
 have S0 := Lib.hid S1.nilLines
 clear S1
 go_loopw [8, 9, 10, 32] (fun _ _ _ vi wr => ∃ (i : Nat) (v : Value), i ≤ Ls.length ∧ vi = .int .i64 i ∧ Objs w wr [.lines v ((Ls.take i).map (fun l : Ln => (fitTo cols l.1, l.2))), .box p 83 #[.int .i64 ↑cols, v]]) (fun _ _ _ vi _ => Ls.length - (intOf vi).toNat)
 case atStart => exact ⟨0, _, Nat.zero_le _, rfl, S0.out⟩
 case round =>
 clear S0
 obtain ⟨i, v, hi, rfl, hS⟩ := hrel
 have S := Lib.hid hS
 clear hS
 by_cases hlt : i < Ls.length
 case neg =>
  obtain rfl : i = Ls.length := by omega
  have SG := Lib.hid (S.out.closeGrid (k := 0) rfl)
  clear S
  go_wp2_with fail
  go_ret2
  exact ⟨p, rfl, by have h := SG.out; rw [List.take_length] at h; exact h⟩
 have HL := Lib.hid (show Ls[i]? = some Ls[i] by simp [hlt])
 have HLL := Lib.hid (show ((Ls.take i).map (fun l : Ln => (fitTo cols l.1, l.2))).length ≤ 1000000 by simp; omega)
 have HLI := Lib.hid (HX.out Ls[i] (List.getElem_mem _))
 obtain ⟨b, off, Ai, ci, rfl, hzb, hc1, hc2, hri⟩ := (HA.out.bel S.out.base).at_ HL.out
 have HRI := Lib.hid (hri.bel (belA _ (.cells #[.slice Ai Ls[i].1.length ci, .bool Ls[i].2] 86)))
 have S1 := Lib.hid (S.out.alloc1 (c1 := #[.slice Ai Ls[i].1.length ci, .bool Ls[i].2]) (t1 := 86))
 have hb0 : (0 : Int) ≤ (i : Int) := by omega
 have hb1 : (i : Int) < (Ls.length : Int) := by omega
 clear hri
 have HVI := Lib.hid (show lineOk Ls[i].1 = true from HV.out _ (List.getElem_mem _))
 go_wp2_with fail
 refine (show Calls Tryd.prog 45 #[.agg #[.slice Ai Ls[i].1.length ci, .bool Ls[i].2], .int .i64 cols] _ _ from fit_yes Ai ci Ls[i].1 Ls[i].2 cols h2 HT.out S1.out HRI.out HLI.out HVI.out).mono ?_
 rintro e w1 ⟨v3, rfl, hS⟩
 obtain ⟨Af, cf, rfl, -⟩ := hS.cellsRd (k := 0) rfl
 have S2 := Lib.hid (hS.alloc1 (c1 := #[.slice Af (fitTo cols Ls[i].1).length cf, .bool Ls[i].2]) (t1 := 86))
 clear hS S1 HRI hzb hc1 hc2
 go_upto_region 10 with (fail)
 generalize w1.heap.size = bl at S2 ⊢
 generalize hnf : (fitTo cols Ls[i].1).length = nf at S2 ⊢
 generalize hsf : Ls[i].2 = sf at S2 ⊢
 have HSF := Lib.hid hsf
 clear hnf hsf
 have SX := Lib.hid (show Objs w _ [.none, .lines v ((Ls.take i).map (fun l : Ln => (fitTo cols l.1, l.2))), .box p 83 #[.int .i64 ↑cols, v], .box bl 86 #[.slice Af nf cf, .bool sf], .cells (.slice Af nf cf) (fitTo cols Ls[i].1)] from by
  have h := S2.out
  exact Objs.pick (σ := [_, _, _, _, _]) (os := []) h [none, some 3, some 4, some 0, some 1] (by decide) rfl)
 clear S2
 refine wp_region_stage (w0 := w) (os := []) (by kernel_rfl) (by kernel_rfl) (by kernel_rfl) [(0, 6, [6], fun vs => .box (blkOf (vs 6)) 86 #[.slice Af nf cf, .bool sf]), (1, 7, [7], fun vs => .lines (vs 7) (((Ls.take i).map (fun l : Ln => (fitTo cols l.1, l.2))) ++ [((fitTo cols Ls[i].1), sf)])), (4, 7, [], fun vs => .none), (2, 10, [7], fun vs => .box p 83 #[.int .i64 ↑cols, vs 7])] [[], [], [], [], [2], [3], [0], [0, 1, 4], [], [], [2]] [.none, .lines v ((Ls.take i).map (fun l : Ln => (fitTo cols l.1, l.2))), .box p 83 #[.int .i64 ↑cols, v], .box bl 86 #[.slice Af nf cf, .bool sf], .cells (.slice Af nf cf) (fitTo cols Ls[i].1)] (fun opn u => match opn with | 0 => u = .pointer (some ⟨p, 0, none⟩) | 1 => u = .pointer (some ⟨p, 0, none⟩) | 2 => u = .pointer (some ⟨p, 0, none⟩) | 3 => u = .pointer (some ⟨p, 1, none⟩) | 4 => u = (v : Value) | 5 => u = .agg #[.slice Af nf cf, .bool sf] | 6 => ∃ g, u = .slice (some ⟨g, 0, none⟩) 1 1 | 7 => ∃ A n c, u = .slice A n c | 8 => u = .pointer (some ⟨p, 0, none⟩) | 9 => u = .pointer (some ⟨p, 1, none⟩) | 10 => True | _ => True) (fun vs => [.box (blkOf (vs 6)) 86 #[.slice Af nf cf, .bool sf], .lines (vs 7) (((Ls.take i).map (fun l : Ln => (fitTo cols l.1, l.2))) ++ [((fitTo cols Ls[i].1), sf)]), .box p 83 #[.int .i64 ↑cols, vs 7], .box bl 86 #[.slice Af nf cf, .bool sf], .none]) (by kernel_rfl) (fun vs => by rfl) SX.out ?_ ?_
 ·apply sc
  ·intro a w' vs σ hS hl hs hk
   have f6 : a.tmps[6]?.getD undef = .pointer (some ⟨p, 0, none⟩) := sof hk
   exact rp (pt p 0) (by simp [execOp, Act.eval, f6, go_sem]) hl hs hS
  apply sc
  ·intro a w' vs σ hS hl hs hk
   have f6 : a.tmps[6]?.getD undef = .pointer (some ⟨p, 0, none⟩) := sof hk
   exact rp (pt p 0) (by simp [execOp, Act.eval, f6, go_sem]) hl hs hS
  apply sc
  ·intro a w' vs σ hS hl hs hk
   have f45 : a.tmps[45]?.getD undef = .pointer (some ⟨p, 0, none⟩) := svf hk 1
   exact rp (pt p 0) (by simp [execOp, Act.eval, f45, go_sem]) hl hs hS
  apply sc
  ·intro a w' vs σ hS hl hs hk
   have f46 : a.tmps[46]?.getD undef = .pointer (some ⟨p, 0, none⟩) := svf hk 2
   exact rp (pt p 1) (by simp [execOp, Act.eval, f46, go_sem]) hl hs hS
  apply sc
  ·intro a w' vs σ hS hl hs hk
   have f47 : a.tmps[47]?.getD undef = .pointer (some ⟨p, 1, none⟩) := svf hk 3
   have hx := (hS.box (sg (hs 2 (by decide)))).cell
   exact rp v (by simp [execOp, Act.eval, f47, go_sem, hx]) hl hs hS
  apply sc
  ·intro a w' vs σ hS hl hs hk
   have f9 : a.tmps[9]?.getD undef = .pointer (some ⟨bl, 0, none⟩) := sof hk
   have hx := (hS.box (sg (hs 3 (by decide)))).cell
   exact rp (.agg #[.slice Af nf cf, .bool sf]) (by simp [execOp, Act.eval, f9, go_sem, hx]) hl hs hS
  apply sc
  ·intro a w' vs σ hS hl hs hk
   have f49 : a.tmps[49]?.getD undef = .agg #[.slice Af nf cf, .bool sf] := svf hk 5
   have h1 : σ[0]? = some .none := hs 0 (by decide)
   exact rs_run (wanted_none rfl) (exec_bsl rfl (by simp [Act.eval, f49]) (run_bsl (.slice Af nf cf) sf w')) (sp_set 0 (.box w'.heap.size 86 #[.slice Af nf cf, .bool sf]) (by kernel_rfl) (by simp) (by decide) hl hs (by rfl) (hS.alloc1.place (sg h1)) ⟨_, rfl⟩)
  apply sc
  ·intro a w' vs σ hS hl hs hk
   have e48 : a.tmps.getD 48 undef = (v : Value) := svv hk 4
   have e50 : a.tmps.getD 50 undef = vs 6 := sk_val hk 6 (by kernel_rfl) rfl rfl
   have p50 : (fun u : Value => ∃ g, u = .slice (some ⟨g, 0, none⟩) 1 1) (vs 6) := (hk.1 6 (by kernel_rfl)).1
   have h2 : σ[1]? = some (.lines v ((Ls.take i).map (fun l : Ln => (fitTo cols l.1, l.2)))) := hs 1 (by decide)
   have h0 : σ[4]? = some (.cells (.slice Af nf cf) (fitTo cols Ls[i].1)) := hs 4 (by decide)
   have h1 : σ[0]? = some (.box (blkOf (vs 6)) 86 #[.slice Af nf cf, .bool sf]) := hs 0 (by decide)
   obtain ⟨g8, hg8⟩ := p50
   rw [hg8, show blkOf (.slice (some ⟨g8, 0, none⟩) 1 1) = g8 from rfl] at h1
   obtain ⟨v9, w9, hr, hS2, A9, c9, hv9⟩ := run_appL hS (k := 1) (j := 4) (ad := ⟨g8, 0, none⟩) (c := 1) (s := sf) (sg h2) (sg h0) (by decide) (by rw [(hS.box (sg h1)).cell]; rfl) (by rw [add_at, (hS.box (sg h1)).cell]; rfl) HLL.out 64
   exact rs_run (wanted_none rfl) (exec_app rfl (by simp only [Act.eval]; exact e48) (by simp only [Act.eval]; exact e50.trans hg8) hr) (sp_set2 1 4 (.lines v9 (((Ls.take i).map (fun l : Ln => (fitTo cols l.1, l.2))) ++ [((fitTo cols Ls[i].1), sf)])) .none (by decide) (by kernel_rfl) (by simp) (by simp) (by decide) (by decide) hl hs (by rfl) (by rfl) hS2 ⟨A9, _, c9, hv9⟩)
  apply sc
  ·intro a w' vs σ hS hl hs hk
   have f44 : a.tmps[44]?.getD undef = .pointer (some ⟨p, 0, none⟩) := svf hk 0
   exact rp (pt p 0) (by simp [execOp, Act.eval, f44, go_sem]) hl hs hS
  apply sc
  ·intro a w' vs σ hS hl hs hk
   have f52 : a.tmps[52]?.getD undef = .pointer (some ⟨p, 0, none⟩) := svf hk 8
   exact rp (pt p 1) (by simp [execOp, Act.eval, f52, go_sem]) hl hs hS
  apply sc
  ·intro a w' vs σ hS hl hs hk
   have f53 : a.tmps[53]?.getD undef = .pointer (some ⟨p, 1, none⟩) := svf hk 9
   have e51 : a.tmps.getD 51 undef = vs 7 := sk_val hk 7 (by kernel_rfl) rfl rfl
   have p51 : (fun u : Value => ∃ A n c, u = .slice A n c) (vs 7) := (hk.1 7 (by kernel_rfl)).1
   have f51 := gd e51
   have h3 : σ[2]? = some (.box p 83 #[.int .i64 ↑cols, v]) := hs 2 (by decide)
   obtain ⟨hx, hf, hz⟩ := (hS.box (sg h3)).facts
   obtain ⟨A9, n9, c9, q9⟩ := p51
   exact rstep_store (w2 := w'.setCell ⟨p, 1, none⟩ (.slice A9 n9 c9)) (wanted_none rfl) rfl (by simp [execOp, Act.eval, f53, e51, f51, q9, hx, hf, hz, go_sem]) (sp_set 2 (.box p 83 #[.int .i64 ↑cols, vs 7]) (by kernel_rfl) (by simp) (by decide) hl hs (by rfl) (by rw [q9]; exact hS.setBox 2 (sg h3)) trivial) trivial
  exact SSteps.nil
 ·intro vs w' hS hv
  have q0 : vs 0 = _ := hv 0 (by decide)
  have q1 : vs 1 = _ := hv 1 (by decide)
  have q2 : vs 2 = _ := hv 2 (by decide)
  have q3 : vs 3 = _ := hv 3 (by decide)
  have q4 : vs 4 = _ := hv 4 (by decide)
  have q5 : vs 5 = _ := hv 5 (by decide)
  have q8 : vs 8 = _ := hv 8 (by decide)
  have q9 : vs 9 = _ := hv 9 (by decide)
  have S2 := Lib.hid hS
  simp only [putL, Act.put, Nat.zero_add, Nat.reduceAdd, List.setIfInBounds_toArray, List.set_cons_succ, List.set_cons_zero, q0, q1, q2, q3, q4, q5, q8, q9]
  clear hS hv q0 q1 q2 q3 q4 q5 q8 q9
  have S3 := Lib.hid ((((show Objs w _ (_ :: _ :: _ :: _ :: _ :: []) from S2.out).del 4).del 3).del 0)
  clear S2
  go_wp2_with fail
  go_roundw
  case rel => exact ⟨i + 1, vs 7, by omega, by go_num, by have h := S3.out; rw [fit_snoc hlt (by rw [← HSF.out])] at h; exact h⟩
  case measure => simp [intOf]; omega
set_option maxRecDepth 100000 in
set_option maxHeartbeats 4000000 in
theorem gridOf_bad (A : Option Addr) (c : Nat) (Ls : List Ln) (cols : Nat) (w : World) (hT : Tabs w) (ha : RdL w A c Ls) (h1 : 1 ≤ cols) (h2 : cols ≤ 1000) (h3 : 1 ≤ Ls.length) (h4 : Ls.length ≤ 1000) (hx : ∀ l ∈ Ls, l.1.length ≤ 100000) (hv : ∃ l, l ∈ Ls ∧ lineOk l.1 = false) :
  Calls Tryd.prog 24 #[.int .i64 cols, .slice A Ls.length c] w fun e w' => e = .returned (.tuple #[.pointer none, .int .i64 2]) ∧ Below w.heap.size w w' := by
 have HT := Lib.hid hT
 have HA := Lib.hid ha
 have HX := Lib.hid hx
 have HV := Lib.hid hv
 clear hT ha hx hv
 go_enter Tryd.func24, Tryd.ntmps24
 go_wp2_with fail
 refine at_objsC (objs_start w).alloc1 (fun W S1 => ?_)
 generalize w.heap.size = p at S1 ⊢
 have S0 := Lib.hid S1.nilLines
 clear S1
 go_loopw [8, 9, 10, 32] (fun _ _ _ vi wr => ∃ (i : Nat) (v : Value), i ≤ Ls.length ∧ vi = .int .i64 i ∧ Hid (∀ (k : Nat) (hk : k < Ls.length), k < i → lineOk Ls[k].1 = true) ∧ Objs w wr [.lines v ((Ls.take i).map (fun l : Ln => (fitTo cols l.1, l.2))), .box p 83 #[.int .i64 ↑cols, v]]) (fun _ _ _ vi _ => Ls.length - (intOf vi).toNat)
 case atStart => exact ⟨0, _, Nat.zero_le _, rfl, Lib.hid (fun k hk h => by omega), S0.out⟩
 case round =>
 clear S0
 obtain ⟨i, v, hi, rfl, HALL, hS⟩ := hrel
 have S := Lib.hid hS
 clear hS
 by_cases hlt : i < Ls.length
 case neg =>
  obtain rfl : i = Ls.length := by omega
  exact (HV.out.elim fun l hl => by
   obtain ⟨k, hk, rfl⟩ := List.getElem_of_mem hl.1
   have := HALL.out k hk (by omega)
   rw [hl.2] at this; cases this)
 have HL := Lib.hid (show Ls[i]? = some Ls[i] by simp [hlt])
 have HLL := Lib.hid (show ((Ls.take i).map (fun l : Ln => (fitTo cols l.1, l.2))).length ≤ 1000000 by simp; omega)
 have HLI := Lib.hid (HX.out Ls[i] (List.getElem_mem _))
 obtain ⟨b, off, Ai, ci, rfl, hzb, hc1, hc2, hri⟩ := (HA.out.bel S.out.base).at_ HL.out
 have HRI := Lib.hid (hri.bel (belA _ (.cells #[.slice Ai Ls[i].1.length ci, .bool Ls[i].2] 86)))
 have S1 := Lib.hid (S.out.alloc1 (c1 := #[.slice Ai Ls[i].1.length ci, .bool Ls[i].2]) (t1 := 86))
 have hb0 : (0 : Int) ≤ (i : Int) := by omega
 have hb1 : (i : Int) < (Ls.length : Int) := by omega
 clear hri
 by_cases hvi : lineOk Ls[i].1 = true
 case neg =>
  have HVI := Lib.hid (show lineOk Ls[i].1 = false by simpa using hvi)
  go_wp2_with fail
  refine (show Calls Tryd.prog 45 #[.agg #[.slice Ai Ls[i].1.length ci, .bool Ls[i].2], .int .i64 cols] _ _ from fit_no Ai ci Ls[i].1 Ls[i].2 cols HT.out S1.out HRI.out HLI.out HVI.out).mono ?_
  rintro e w1 ⟨rfl, hS⟩
  have S2 := Lib.hid (hS.alloc1 (c1 := #[.slice none 0 0, .bool false]) (t1 := 86)).base
  clear hS
  go_wp2_with fail
  go_ret2
  exact ⟨rfl, S2.out⟩
 have HVI := Lib.hid hvi
 go_wp2_with fail
 refine (show Calls Tryd.prog 45 #[.agg #[.slice Ai Ls[i].1.length ci, .bool Ls[i].2], .int .i64 cols] _ _ from fit_yes Ai ci Ls[i].1 Ls[i].2 cols h2 HT.out S1.out HRI.out HLI.out HVI.out).mono ?_
 rintro e w1 ⟨v3, rfl, hS⟩
 obtain ⟨Af, cf, rfl, -⟩ := hS.cellsRd (k := 0) rfl
 have S2 := Lib.hid (hS.alloc1 (c1 := #[.slice Af (fitTo cols Ls[i].1).length cf, .bool Ls[i].2]) (t1 := 86))
 clear hS S1 HRI hzb hc1 hc2
 go_upto_region 10 with (fail)
 generalize w1.heap.size = bl at S2 ⊢
 generalize hnf : (fitTo cols Ls[i].1).length = nf at S2 ⊢
 generalize hsf : Ls[i].2 = sf at S2 ⊢
 have HSF := Lib.hid hsf
 clear hnf hsf
 have SX := Lib.hid (show Objs w _ [.none, .lines v ((Ls.take i).map (fun l : Ln => (fitTo cols l.1, l.2))), .box p 83 #[.int .i64 ↑cols, v], .box bl 86 #[.slice Af nf cf, .bool sf], .cells (.slice Af nf cf) (fitTo cols Ls[i].1)] from by
  have h := S2.out
  exact Objs.pick (σ := [_, _, _, _, _]) (os := []) h [none, some 3, some 4, some 0, some 1] (by decide) rfl)
 clear S2
 refine wp_region_stage (w0 := w) (os := []) (by kernel_rfl) (by kernel_rfl) (by kernel_rfl) [(0, 6, [6], fun vs => .box (blkOf (vs 6)) 86 #[.slice Af nf cf, .bool sf]), (1, 7, [7], fun vs => .lines (vs 7) (((Ls.take i).map (fun l : Ln => (fitTo cols l.1, l.2))) ++ [((fitTo cols Ls[i].1), sf)])), (4, 7, [], fun vs => .none), (2, 10, [7], fun vs => .box p 83 #[.int .i64 ↑cols, vs 7])] [[], [], [], [], [2], [3], [0], [0, 1, 4], [], [], [2]] [.none, .lines v ((Ls.take i).map (fun l : Ln => (fitTo cols l.1, l.2))), .box p 83 #[.int .i64 ↑cols, v], .box bl 86 #[.slice Af nf cf, .bool sf], .cells (.slice Af nf cf) (fitTo cols Ls[i].1)] (fun opn u => match opn with | 0 => u = .pointer (some ⟨p, 0, none⟩) | 1 => u = .pointer (some ⟨p, 0, none⟩) | 2 => u = .pointer (some ⟨p, 0, none⟩) | 3 => u = .pointer (some ⟨p, 1, none⟩) | 4 => u = (v : Value) | 5 => u = .agg #[.slice Af nf cf, .bool sf] | 6 => ∃ g, u = .slice (some ⟨g, 0, none⟩) 1 1 | 7 => ∃ A n c, u = .slice A n c | 8 => u = .pointer (some ⟨p, 0, none⟩) | 9 => u = .pointer (some ⟨p, 1, none⟩) | 10 => True | _ => True) (fun vs => [.box (blkOf (vs 6)) 86 #[.slice Af nf cf, .bool sf], .lines (vs 7) (((Ls.take i).map (fun l : Ln => (fitTo cols l.1, l.2))) ++ [((fitTo cols Ls[i].1), sf)]), .box p 83 #[.int .i64 ↑cols, vs 7], .box bl 86 #[.slice Af nf cf, .bool sf], .none]) (by kernel_rfl) (fun vs => by rfl) SX.out ?_ ?_
 ·apply sc
  ·intro a w' vs σ hS hl hs hk
   have f6 : a.tmps[6]?.getD undef = .pointer (some ⟨p, 0, none⟩) := sof hk
   exact rp (pt p 0) (by simp [execOp, Act.eval, f6, go_sem]) hl hs hS
  apply sc
  ·intro a w' vs σ hS hl hs hk
   have f6 : a.tmps[6]?.getD undef = .pointer (some ⟨p, 0, none⟩) := sof hk
   exact rp (pt p 0) (by simp [execOp, Act.eval, f6, go_sem]) hl hs hS
  apply sc
  ·intro a w' vs σ hS hl hs hk
   have f45 : a.tmps[45]?.getD undef = .pointer (some ⟨p, 0, none⟩) := svf hk 1
   exact rp (pt p 0) (by simp [execOp, Act.eval, f45, go_sem]) hl hs hS
  apply sc
  ·intro a w' vs σ hS hl hs hk
   have f46 : a.tmps[46]?.getD undef = .pointer (some ⟨p, 0, none⟩) := svf hk 2
   exact rp (pt p 1) (by simp [execOp, Act.eval, f46, go_sem]) hl hs hS
  apply sc
  ·intro a w' vs σ hS hl hs hk
   have f47 : a.tmps[47]?.getD undef = .pointer (some ⟨p, 1, none⟩) := svf hk 3
   have hx := (hS.box (sg (hs 2 (by decide)))).cell
   exact rp v (by simp [execOp, Act.eval, f47, go_sem, hx]) hl hs hS
  apply sc
  ·intro a w' vs σ hS hl hs hk
   have f9 : a.tmps[9]?.getD undef = .pointer (some ⟨bl, 0, none⟩) := sof hk
   have hx := (hS.box (sg (hs 3 (by decide)))).cell
   exact rp (.agg #[.slice Af nf cf, .bool sf]) (by simp [execOp, Act.eval, f9, go_sem, hx]) hl hs hS
  apply sc
  ·intro a w' vs σ hS hl hs hk
   have f49 : a.tmps[49]?.getD undef = .agg #[.slice Af nf cf, .bool sf] := svf hk 5
   have h1 : σ[0]? = some .none := hs 0 (by decide)
   exact rs_run (wanted_none rfl) (exec_bsl rfl (by simp [Act.eval, f49]) (run_bsl (.slice Af nf cf) sf w')) (sp_set 0 (.box w'.heap.size 86 #[.slice Af nf cf, .bool sf]) (by kernel_rfl) (by simp) (by decide) hl hs (by rfl) (hS.alloc1.place (sg h1)) ⟨_, rfl⟩)
  apply sc
  ·intro a w' vs σ hS hl hs hk
   have e48 : a.tmps.getD 48 undef = (v : Value) := svv hk 4
   have e50 : a.tmps.getD 50 undef = vs 6 := sk_val hk 6 (by kernel_rfl) rfl rfl
   have p50 : (fun u : Value => ∃ g, u = .slice (some ⟨g, 0, none⟩) 1 1) (vs 6) := (hk.1 6 (by kernel_rfl)).1
   have h2 : σ[1]? = some (.lines v ((Ls.take i).map (fun l : Ln => (fitTo cols l.1, l.2)))) := hs 1 (by decide)
   have h0 : σ[4]? = some (.cells (.slice Af nf cf) (fitTo cols Ls[i].1)) := hs 4 (by decide)
   have h1 : σ[0]? = some (.box (blkOf (vs 6)) 86 #[.slice Af nf cf, .bool sf]) := hs 0 (by decide)
   obtain ⟨g8, hg8⟩ := p50
   rw [hg8, show blkOf (.slice (some ⟨g8, 0, none⟩) 1 1) = g8 from rfl] at h1
   obtain ⟨v9, w9, hr, hS2, A9, c9, hv9⟩ := run_appL hS (k := 1) (j := 4) (ad := ⟨g8, 0, none⟩) (c := 1) (s := sf) (sg h2) (sg h0) (by decide) (by rw [(hS.box (sg h1)).cell]; rfl) (by rw [add_at, (hS.box (sg h1)).cell]; rfl) HLL.out 64
   exact rs_run (wanted_none rfl) (exec_app rfl (by simp only [Act.eval]; exact e48) (by simp only [Act.eval]; exact e50.trans hg8) hr) (sp_set2 1 4 (.lines v9 (((Ls.take i).map (fun l : Ln => (fitTo cols l.1, l.2))) ++ [((fitTo cols Ls[i].1), sf)])) .none (by decide) (by kernel_rfl) (by simp) (by simp) (by decide) (by decide) hl hs (by rfl) (by rfl) hS2 ⟨A9, _, c9, hv9⟩)
  apply sc
  ·intro a w' vs σ hS hl hs hk
   have f44 : a.tmps[44]?.getD undef = .pointer (some ⟨p, 0, none⟩) := svf hk 0
   exact rp (pt p 0) (by simp [execOp, Act.eval, f44, go_sem]) hl hs hS
  apply sc
  ·intro a w' vs σ hS hl hs hk
   have f52 : a.tmps[52]?.getD undef = .pointer (some ⟨p, 0, none⟩) := svf hk 8
   exact rp (pt p 1) (by simp [execOp, Act.eval, f52, go_sem]) hl hs hS
  apply sc
  ·intro a w' vs σ hS hl hs hk
   have f53 : a.tmps[53]?.getD undef = .pointer (some ⟨p, 1, none⟩) := svf hk 9
   have e51 : a.tmps.getD 51 undef = vs 7 := sk_val hk 7 (by kernel_rfl) rfl rfl
   have p51 : (fun u : Value => ∃ A n c, u = .slice A n c) (vs 7) := (hk.1 7 (by kernel_rfl)).1
   have f51 := gd e51
   have h3 : σ[2]? = some (.box p 83 #[.int .i64 ↑cols, v]) := hs 2 (by decide)
   obtain ⟨hx, hf, hz⟩ := (hS.box (sg h3)).facts
   obtain ⟨A9, n9, c9, q9⟩ := p51
   exact rstep_store (w2 := w'.setCell ⟨p, 1, none⟩ (.slice A9 n9 c9)) (wanted_none rfl) rfl (by simp [execOp, Act.eval, f53, e51, f51, q9, hx, hf, hz, go_sem]) (sp_set 2 (.box p 83 #[.int .i64 ↑cols, vs 7]) (by kernel_rfl) (by simp) (by decide) hl hs (by rfl) (by rw [q9]; exact hS.setBox 2 (sg h3)) trivial) trivial
  exact SSteps.nil
 ·intro vs w' hS hv
  have q0 : vs 0 = _ := hv 0 (by decide)
  have q1 : vs 1 = _ := hv 1 (by decide)
  have q2 : vs 2 = _ := hv 2 (by decide)
  have q3 : vs 3 = _ := hv 3 (by decide)
  have q4 : vs 4 = _ := hv 4 (by decide)
  have q5 : vs 5 = _ := hv 5 (by decide)
  have q8 : vs 8 = _ := hv 8 (by decide)
  have q9 : vs 9 = _ := hv 9 (by decide)
  have S2 := Lib.hid hS
  simp only [putL, Act.put, Nat.zero_add, Nat.reduceAdd, List.setIfInBounds_toArray, List.set_cons_succ, List.set_cons_zero, q0, q1, q2, q3, q4, q5, q8, q9]
  clear hS hv q0 q1 q2 q3 q4 q5 q8 q9
  have S3 := Lib.hid ((((show Objs w _ (_ :: _ :: _ :: _ :: _ :: []) from S2.out).del 4).del 3).del 0)
  clear S2
  go_wp2_with fail
  go_roundw
  case rel => exact ⟨i + 1, vs 7, by omega, by go_num, Lib.hid (fun k hk h => by rcases Nat.lt_or_ge k i with h' | h'; (exact HALL.out k hk h'); (obtain rfl : k = i := by omega); exact HVI.out), by have h := S3.out; rw [fit_snoc hlt (by rw [← HSF.out])] at h; exact h⟩
  case measure => simp [intOf]; omega
theorem gridOf_arg (A : Option Addr) (c n : Nat) (cols : Int) (w : World) (hn : n ≤ 9223372036854775807) (h : n < 1 ∨ 1000 < n ∨ cols < 1 ∨ 1000 < cols) : Calls Tryd.prog 24 #[.int .i64 cols, .slice A n c] w fun e w' => e = .returned (.tuple #[.pointer none, .int .i64 2]) ∧ w = w' := by
 have h' : (n : Int) < 1 ∨ ((1 : Int) ≤ n ∧ (1000 : Int) < n) ∨ (((1 : Int) ≤ n ∧ (n : Int) ≤ 1000) ∧ cols < 1) ∨ (((1 : Int) ≤ n ∧ (n : Int) ≤ 1000) ∧ 1 ≤ cols ∧ 1000 < cols) := by omega
 clear h
 rcases h' with h | ⟨h, h2⟩ | ⟨⟨h, h2⟩, h3⟩ | ⟨⟨h, h2⟩, h3, h4⟩
 all_goals
  go_enter Tryd.func24, Tryd.ntmps24
  go_wp2_with fail
  go_ret2
  exact ⟨rfl, rfl⟩
end Go.Proofs.YtdndoikgnohkkaaDoor

namespace Go.Proofs.YtdndoikgnohkkaaDoor
open Go.RowKit

def rsL (c R : Nat) (O : List Ln) : List Ln := O.take R ++ List.replicate (R - O.length) (empties c, false)
def rsK (c R k : Nat) (O : List Ln) : List Ln := O.take R ++ List.replicate k (empties c, false)
def rsO (c R : Nat) (O : List Ln) : List Ln := (rsL c R O).map fun l => (fitTo c l.1, false)
def hard (k : Nat) (L : List Ln) : List Ln := (L.take k).map (fun l => (l.1, false)) ++ L.drop k
def resN (c : Nat) (N : List Ln) (s : Pr) : Pr := { s with cols := c, M := N, O := rsO c N.length s.O }
theorem rsK_length (c R k : Nat) (O : List Ln) : (rsK c R k O).length = min R O.length + k := by simp [rsK]
theorem rsK_succ (c R k : Nat) (O : List Ln) : rsK c R k O ++ [(empties c, false)] = rsK c R (k + 1) O := by simp [rsK, List.replicate_succ', List.append_assoc]
theorem rsK_all {c R k : Nat} {O : List Ln} (h : min R O.length + k = R) : rsK c R k O = rsL c R O := by
 unfold rsK rsL
 rw [show k = R - O.length by omega]
theorem rsL_length (c R : Nat) (O : List Ln) : (rsL c R O).length = R := by simp [rsL]; omega
theorem hard_length (k : Nat) (L : List Ln) : (hard k L).length = L.length := by simp [hard]; omega
theorem hard_zero (L : List Ln) : hard 0 L = L := by simp [hard]
theorem hard_all (L : List Ln) : hard L.length L = L.map fun l => (l.1, false) := by simp [hard]
theorem hard_get {k : Nat} {L : List Ln} {l : Ln} (h : L[k]? = some l) : (hard k L)[k]? = some l := by
 have hk := (List.getElem?_eq_some_iff.1 h).1
 unfold hard
 rw [List.getElem?_append_right (by simp; omega)]
 simp [Nat.min_eq_left (Nat.le_of_lt hk), h]
theorem hard_set {k : Nat} {L : List Ln} {l : Ln} (h : L[k]? = some l) : (hard k L).set k (l.1, false) = hard (k + 1) L := by
 have hk := (List.getElem?_eq_some_iff.1 h).1
 have he : L[k] = l := (List.getElem?_eq_some_iff.1 h).2
 unfold hard
 rw [List.set_append_right _ _ (by simp; omega)]
 rw [List.drop_eq_getElem_cons hk, List.take_succ_eq_append_getElem hk, he]
 simp [Nat.min_eq_left (Nat.le_of_lt hk)]
theorem rsO_of (c R : Nat) (O : List Ln) : ((rsL c R O).map (fun l : Ln => (l.1, false))).map (fun l : Ln => (fitTo c l.1, l.2)) = rsO c R O := by simp [rsO]
theorem allV_rsL {c R : Nat} {O : List Ln} (h : AllV O) : ∀ l ∈ rsL c R O, RowV l.1 := fun l hl => by
 unfold rsL at hl
 rcases List.mem_append.1 hl with hl | hl
 ·exact h l (List.mem_of_mem_take hl)
 ·rw [(List.mem_replicate.1 hl).2]
  exact allV_new 1 c (q := pen0) (by decide +kernel) (empties c, false) (by simp [empties, cEmp])
theorem rsL_small {c R : Nat} {s : Pr} {rr : Nat} (h : s.good rr) (hcm : c ≤ 1000) : ∀ l ∈ (rsL c R s.O).map (fun l : Ln => ((l.1, false) : Ln)), l.1.length ≤ 1000 ∧ lineOk l.1 = true := fun l hl => by
 obtain ⟨l', hl', rfl⟩ := List.mem_map.1 hl
 have h1 : l'.1.length ≤ 1000 := by
  unfold rsL at hl'
  rcases List.mem_append.1 hl' with hl' | hl'
  ·rw [h.O.1 l' (List.mem_of_mem_take hl')]; exact h.cm
  ·rw [(List.mem_replicate.1 hl').2]; simp [empties]; exact hcm
 exact ⟨h1, ok_of_row (allV_rsL h.O.2.2 l' hl') h1⟩
theorem resN_good {c R : Nat} {N : List Ln} {s : Pr} {rr : Nat} (h : s.good rr) (hN : K24 c R N) (hc : 0 < c) (hcm : c ≤ 1000) (hR : 0 < R) (hRm : R ≤ 1000) : (resN c N s).good R := by
 refine ⟨hc, hcm, hR, hRm, hN, fun l hl => ?_, ?_, fun l hl => ?_⟩
 ·obtain ⟨l', -, rfl⟩ := List.mem_map.1 hl
  exact fitTo_length c _
 ·show (rsO c N.length s.O).length = R
  unfold rsO
  rw [List.length_map, rsL_length]
  exact hN.2.1
 ·obtain ⟨l', hl', rfl⟩ := List.mem_map.1 hl
  exact rowOk_is.1 (fit_row c (rowOk_is.2 (allV_rsL h.O.2.2 l' hl')))
section
variable {w0 w : World} {os : List Ob} {p nx : Nat} {s : Pr}
def slN : Value → Nat
 | .slice _ n _ => n
 | _ => 0
theorem Objs.linesForm {k n c : Nat} {A : Option Addr} {L : List Ln} (hS : Objs w0 w os) (hk : os[k]? = some (.lines (.slice A n c) L)) (h0 : 0 < L.length) : ∃ g, A = some ⟨g, 0, none⟩ ∧ n = L.length ∧ L.length ≤ c ∧ c ≤ 9223372036854775807 ∧ g < w.heap.size ∧ (∀ i l, L[i]? = some l → w.cell? ⟨g, i * 2 + 1, none⟩ = some (.bool l.2)) ∧ (∀ i, w.frozen? ⟨g, i, none⟩ = false) := by
 obtain ⟨F, bs, hF, -⟩ := hS.get hk
 obtain ⟨A2, c2, e2, h1, h2, -, h4⟩ := hF.form
 simp only [Value.slice.injEq] at e2
 obtain ⟨rfl, rfl, rfl⟩ := e2
 obtain ⟨g, rfl, hz, -, hso, hfz⟩ := h4 h0
 exact ⟨g, rfl, rfl, h1, by unfold maxLen at h2; omega, hz, hso, hfz⟩
set_option maxRecDepth 100000 in
set_option maxHeartbeats 16000000 in
theorem Resize_front {rr c R : Nat} {N : List Ln} (hT : Tabs w0) (hS : Objs w0 w (pairO p s :: .grid nx 83 c N :: os)) (hg : s.good rr) (hN : K24 c R N) (hc : 0 < c) (hcm : c ≤ 1000) (hR : 0 < R) (hRm : R ≤ 1000) :
  Calls Tryd.prog 16 #[.pointer (some ⟨p, 0, none⟩), .pointer (some ⟨nx, 0, none⟩)] w fun e w' => e = .returned (.int .i64 0) ∧ Objs w0 w' (pairO p (resN c N s) :: .grid nx 83 c N :: os) := by
 obtain ⟨g, m, kv, ko, hK, hO⟩ := hS.openPair
 obtain rfl := hN.2.1
 obtain rfl := hg.O.2.1
 have HK := Lib.hid hK
 have HG := Lib.hid hg
 have HN := Lib.hid hN
 have HT := Lib.hid hT
 have S := Lib.hid hO
 have hO0 := hg.r0
 have hO1 := hg.rm
 clear hS hK hO hg hN hT
 have hn0 : ((N.length : Int) == 0) = false := beq_no (by omega)
 go_enter Tryd.func16, Tryd.ntmps16
 go_wp2_with fail
 refine (pnone_no S.out (k := 0) rfl).mono ?_
 rintro e w1 ⟨rfl, hS⟩
 have S1 := Lib.hid hS
 clear hS S
 go_wp2_with fail
 refine (Rows_any S1.out (k := 4) rfl).mono ?_
 rintro e w2 ⟨rfl, hS⟩
 have S2 := Lib.hid hS
 clear hS S1
 obtain ⟨hx, hf, hz⟩ := (S2.out.box (k := 0) rfl).facts
 go_wp2_with fail
 refine (Lines_any S2.out (k := 2) rfl HG.out.c0 (HG.out.O.1.mill HG.out.cm) (by omega)).mono ?_
 rintro e w3 ⟨v, rfl, hS⟩
 clear hx hf hz S2
 obtain ⟨A, cp, rfl, -, -⟩ := hS.linesRd (k := 0) rfl
 obtain ⟨g0, rfl, -, hcap, hcap2, -, -, -⟩ := hS.linesForm (k := 0) rfl hO0
 have S3 := Lib.hid hS
 clear hS
 go_wp2_with fail
 refine (Rows_any S3.out (k := 5) rfl).mono ?_
 rintro e w4 ⟨rfl, hS⟩
 have S4 := Lib.hid hS
 clear hS S3
 by_cases hle : N.length < s.O.length
 case' pos =>
  have hle1 : (N.length : Int) < (s.O.length : Int) := by omega
  go_wp2_with fail
  refine (Rows_any S4.out (k := 5) rfl).mono ?_
  rintro e w5 ⟨rfl, hS⟩
  have hs0 : (0 : Int) ≤ (N.length : Int) := by omega
  have hs1 : N.length ≤ cp := by omega
  have S5 := Lib.hid (hS.cutLines (k := 0) rfl (Nat.le_of_lt hle))
  clear hS S4
  go_wp2_with fail
 case' neg =>
  have hle1 : ¬ (N.length : Int) < (s.O.length : Int) := by omega
  have S5 := Lib.hid (show Objs w0 _ (.lines (.slice (some ⟨g0, 0, none⟩) s.O.length cp) (s.O.take N.length) :: _) by rw [List.take_of_length_le (show s.O.length ≤ N.length by omega)]; exact S4.out)
  clear S4
  go_wp2_with fail
 all_goals
  go_loopw [5] (fun v wr => ∃ k : Nat, min N.length s.O.length + k ≤ N.length ∧ Objs w0 wr (.lines v (rsK c N.length k s.O) :: .box p 44 #[.pointer (some ⟨g, 0, none⟩), .pointer (some ⟨m, 0, none⟩), .int .i64 (used24 s.mode), .int .i64 s.mode, kv] :: .grid g 83 s.cols s.M :: .grid m 83 s.cols s.O :: ko :: .grid nx 83 c N :: os)) (fun v _ => N.length - slN v)
  case atStart => exact ⟨0, by omega, by have h := S5.out; unfold rsK; rw [List.replicate_zero, List.append_nil]; exact h⟩
  case round =>
   clear S5
   obtain ⟨k, hk, hS⟩ := hrel
   obtain ⟨A5, c5, rfl, -, -⟩ := hS.linesRd (k := 0) rfl
   have S6 := Lib.hid hS
   have HLEN := Lib.hid (rsK_length c N.length k s.O)
   clear hS
   by_cases hlt : min N.length s.O.length + k < N.length
   case pos =>
    have hl1 : ((rsK c N.length k s.O).length : Int) < (N.length : Int) := by rw [HLEN.out]; omega
    have hl2 : (rsK c N.length k s.O).length ≤ 1000 := by rw [HLEN.out]; omega
    have HLT := Lib.hid hlt
    have HK2 := Lib.hid hk
    clear hlt hk
    go_wp2_with fail
    refine (Rows_any S6.out (k := 5) rfl).mono ?_
    rintro e w6 ⟨rfl, hS⟩
    have S7 := Lib.hid hS
    clear hS S6
    go_wp2_with fail
    refine (Cols_any S7.out (k := 5) rfl).mono ?_
    rintro e w7 ⟨rfl, hS⟩
    have S8 := Lib.hid hS
    clear hS S7
    go_wp2_with fail
    refine (lineNew_yes c hcm _).mono ?_
    rintro e w8 ⟨v2, rfl, ho, hb⟩
    obtain ⟨A2, c2, rfl, -⟩ := ho.form
    have S9 := Lib.hid (S8.out.newCells hb ho)
    clear hb ho S8
    go_upto_region 8 with (fail)
    refine at_objsC (S9.out.alloc1 (c1 := #[.slice A2 (empties c).length c2, .bool false]) (t1 := 86)) (fun W hW => ?_)
    generalize w8.heap.size = b6 at hW ⊢
    have S10 := Lib.hid hW
    clear hW S9
    obtain ⟨hx6, hf6, hz6⟩ := (S10.out.box (k := 0) rfl).facts
    have hS3 := S10.out.alloc1 (c1 := #[.slice A2 (empties c).length c2, .bool false]) (t1 := 86)
    obtain ⟨v9, w9, hr9, hS9, A9, c9, hv9⟩ := run_appL hS3 (k := 3) (j := 2) (ad := ⟨W.heap.size, 0, none⟩) (c := 1) (s := false) rfl rfl (by decide) (by rw [(hS3.box (k := 0) rfl).cell]; rfl) (by rw [add_at, (hS3.box (k := 0) rfl).cell]; rfl) (by omega) 64
    rw [rsK_succ] at hS9
    have S11 := Lib.hid (show Objs w0 w9 (.lines v9 (rsK c N.length (k + 1) s.O) :: .box p 44 #[.pointer (some ⟨g, 0, none⟩), .pointer (some ⟨m, 0, none⟩), .int .i64 (used24 s.mode), .int .i64 s.mode, kv] :: .grid g 83 s.cols s.M :: .grid m 83 s.cols s.O :: ko :: .grid nx 83 c N :: os) from ((hS9.del 0).del 0).del 0)
    have HV := Lib.hid hv9
    clear hS3 hS9 hv9
    go_wp2_with (first | (refine wpList_bsl (wanted_none rfl) _ rfl (v := .slice A2 (empties c).length c2) (s := false) rfl ?_) | (at_builtin; refine wpList_app _ _ (wanted_none rfl) rfl rfl rfl hr9 ?_))
    go_roundw
    case rel => exact ⟨k + 1, by have := HLT.out; omega, S11.out⟩
    case measure => rw [HV.out]; show N.length - ((rsK c N.length k s.O).length + 1) < N.length - (rsK c N.length k s.O).length; rw [HLEN.out]; have := HLT.out; omega
   case neg =>
    have hl1 : ¬ ((rsK c N.length k s.O).length : Int) < (N.length : Int) := by rw [HLEN.out]; omega
    have HKR := Lib.hid (rsK_all (c := c) (show min N.length s.O.length + k = N.length by omega))
    have HLN := Lib.hid (show (rsK c N.length k s.O).length = N.length by rw [HLEN.out]; omega)
    clear hlt hk
    go_wp2_with fail
    refine (Rows_any S6.out (k := 5) rfl).mono ?_
    rintro e w6 ⟨rfl, hS⟩
    have S7 := Lib.hid hS
    clear hS S6
    go_wp2_with fail
    go_loopw [53] (fun x wr => ∃ n : Nat, n ≤ N.length ∧ x = .int .i64 n ∧ Objs w0 wr (.lines (.slice A5 (rsK c N.length k s.O).length c5) (hard n (rsL c N.length s.O)) :: .box p 44 #[.pointer (some ⟨g, 0, none⟩), .pointer (some ⟨m, 0, none⟩), .int .i64 (used24 s.mode), .int .i64 s.mode, kv] :: .grid g 83 s.cols s.M :: .grid m 83 s.cols s.O :: ko :: .grid nx 83 c N :: os)) (fun x _ => N.length - (intOf x).toNat)
    case atStart => exact ⟨0, Nat.zero_le _, rfl, by have h := S7.out; rw [hard_zero, ← HKR.out]; exact h⟩
    case round =>
     clear S7
     obtain ⟨n, hn, rfl, hS⟩ := hrel
     by_cases hnl : n < N.length
     ·obtain ⟨l, hl⟩ := get_of (show n < (rsL c N.length s.O).length by rw [rsL_length]; exact hnl)
      have HL := Lib.hid hl
      have hnn : (n : Int) < ((rsK c N.length k s.O).length : Int) := by rw [HLN.out]; omega
      have hn00 : (0 : Int) ≤ (n : Int) := by omega
      obtain ⟨g5, rfl, -, -, -, hz5, hso5, hf5⟩ := hS.linesForm (k := 0) rfl (by rw [hard_length, rsL_length]; exact hR)
      have hso := hso5 n l (hard_get hl)
      have S8 := Lib.hid (by have h := hS.storeSoft (k := 0) (s := false) rfl (hard_get hl); rw [hard_set hl] at h; exact h)
      clear hS hso5 hl
      go_wp2_with fail
      go_roundw
      case rel => exact ⟨n + 1, by omega, by go_num, S8.out⟩
      case measure => simp [intOf]; omega
     ·have hnn : ¬ (n : Int) < ((rsK c N.length k s.O).length : Int) := by rw [HLN.out]; omega
      have HE := Lib.hid (show n = (rsL c N.length s.O).length by rw [rsL_length]; omega)
      have S8 := Lib.hid (by have h := hS; rw [HE.out, hard_all] at h; exact h)
      clear hS
      go_wp2_with fail
      refine (Cols_any S8.out (k := 5) rfl).mono ?_
      rintro e w7 ⟨rfl, hS⟩
      have hrd := (hS.linesRd' (k := 0) rfl).2.2
      have S9 := Lib.hid hS
      clear hS S8
      go_wp2_with fail
      have hcon := gridOf_yes A5 c5 ((rsL c N.length s.O).map fun l => (l.1, false)) c w7 (S9.out.tabs HT.out) hrd hc hcm (by rw [List.length_map, rsL_length]; exact hR) (by rw [List.length_map, rsL_length]; exact hRm) (fun l hl => by have := (rsL_small HG.out hcm l hl).1; omega) (fun l hl => (rsL_small HG.out hcm l hl).2)
      rw [rsO_of, List.length_map, rsL_length, ← HLN.out] at hcon
      refine (show Calls _ _ _ _ _ from hcon).mono ?_
      rintro e w8 ⟨p2, rfl, hG2⟩
      rw [HLN.out] at hG2
      have S10 := Lib.hid (S9.out.nest hG2)
      clear hG2 hcon hrd S9
      go_wp2_with fail
      refine (CopyG S10.out (k := 6) rfl hc hcm HN.out.1 (by omega)).mono ?_
      rintro e w9 ⟨cp2, rfl, hS⟩
      have S11 := Lib.hid hS
      clear hS S10
      obtain ⟨hx, hf, hz⟩ := (S11.out.box (k := 3) rfl).facts
      have hW := (S11.out.setBox 3 (i := 0) (u := .pointer (some ⟨cp2, 0, none⟩)) rfl).setBox 3 (i := 1) (u := .pointer (some ⟨p2, 0, none⟩)) rfl
      have S12 := Lib.hid (show Objs w0 _ (.box p 44 #[.pointer (some ⟨cp2, 0, none⟩), .pointer (some ⟨p2, 0, none⟩), .int .i64 (used24 s.mode), .int .i64 s.mode, kv] :: .grid cp2 83 c N :: .grid p2 83 c (rsO c N.length s.O) :: ko :: .grid nx 83 c N :: os) from (Objs.pick (σ := [_, _, _, _, _, _, _, _]) (os := os) hW [some 3, some 0, some 1, some 6, some 7] (by decide) rfl))
      clear hW S11
      go_wp2_with fail
      go_ret
      exact ⟨rfl, Objs.closePair (s := resN c N s) (g := cp2) (m := p2) (kv := kv) (ko := ko) S12.out HK.out⟩
end
end Go.Proofs.YtdndoikgnohkkaaDoor

namespace Go.Proofs.YtdndoikgnohkkaaDoor
open Go.RowKit

def Ok24 (w : World) (a : Act24) : Prop := RdL w a.A a.c a.L ∧ a.c ≤ maxLen ∧ ∀ l ∈ a.L, l.1.length ≤ maxLen
def Few24 (a : Act24) : Prop := a.L.length ≤ 6 ∧ ∀ l ∈ a.L, l.1.length ≤ 12
def SmallE (l : List Act24) (e : Ending) : Prop := ∃ b : Bool, e = .returned (.bool b) ∧ (b = true → l.length ≤ 40 ∧ ∀ (i : Nat) (a : Act24), l[i]? = some a → Few24 a)
theorem rec_cell {w : World} {b o n j : Nat} {cs : Array Value} {v : Value} (h : recAt w b o n = some cs) (hv : cs[j]? = some v) : w.cell? ⟨b, o + j, none⟩ = some v :=
 (range_of_recAt h).2 j v (by simpa using hv)
set_option maxRecDepth 100000 in
set_option maxHeartbeats 8000000 in
theorem l24small_any (Al : Option Addr) (cl : Nat) (l : List Act24) (w : World) (hal : RdRec w Al cl 50 (l.map av24)) (hml : cl ≤ maxLen) (hok : ∀ a ∈ l, Ok24 w a) :
  Calls Tryd.prog 21 #[.slice Al l.length cl, .int .i64 40] w fun e w' => SmallE l e ∧ w = w' := by
 have HAL := Lib.hid hal
 have HOK := Lib.hid hok
 have hlm : l.length ≤ 9223372036854775807 := by have := hal.1; unfold maxLen at hml; simp at this; omega
 clear hal hml hok
 go_enter Tryd.func21, Tryd.ntmps21
 go_wp2_with fail
 go_loopw [5] (fun x wr => ∃ i : Nat, i ≤ l.length ∧ x = .int .i64 i ∧ w = wr ∧ Hid (∀ (j : Nat) (a : Act24), j < i → l[j]? = some a → Few24 a)) (fun x _ => l.length - (intOf x).toNat)
 case atStart => exact ⟨0, Nat.zero_le _, rfl, rfl, Lib.hid (fun j a h => by omega)⟩
 case round =>
  obtain ⟨i, hi, rfl, rfl, HF⟩ := hrel
  by_cases hlt : i < l.length ∧ i < 40
  case neg =>
   by_cases hil : i < l.length
   case pos =>
    have h1 : (i : Int) < (l.length : Int) := by omega
    have h2 : ¬ (i : Int) < 40 := by omega
    have h3 : ¬ (l.length : Int) ≤ 40 := by omega
    go_wp2_with fail
    go_ret
    exact ⟨⟨false, rfl, fun h => by cases h⟩, rfl⟩
   case neg =>
    have h1 : ¬ (i : Int) < (l.length : Int) := by omega
    have HE := Lib.hid (show i = l.length by omega)
    clear hlt
    go_wp2_with fail
    go_ret
    refine ⟨⟨decide ((l.length : Int) ≤ 40), rfl, fun h => ⟨by have := of_decide_eq_true h; omega, fun j a hj => HF.out j a (by have := (List.getElem?_eq_some_iff.1 hj).1; have := HE.out; omega) hj⟩⟩, rfl⟩
  obtain ⟨hil, hi4⟩ := hlt
  have h1 : (i : Int) < (l.length : Int) := by omega
  have h0 : (0 : Int) ≤ (i : Int) := by omega
  have h2 : (i : Int) < 40 := by omega
  obtain ⟨a, ha⟩ := get_of hil
  have HA := Lib.hid ha
  obtain ⟨b, off, rfl, hz, hr⟩ := HAL.out.at_ (i := i) (r := av24 a) (by simp [ha])
  have hc0 := rec_cell hr (av24_get0 a)
  have hc1 := rec_cell hr (av24_get1 a)
  have hc49 := rec_cell hr (av24_get49 a)
  have HK := Lib.hid (HOK.out a (List.mem_of_getElem? ha))
  have hL63 : a.L.length ≤ 9223372036854775807 := by have := HK.out.1.1; have := HK.out.2.1; unfold maxLen at this; omega
  simp only [Nat.add_zero] at hc0
  clear ha hr
  have hcc : (6 < a.L.length ∨ (a.L.length ≤ 6 ∧ a.what = 3 ∧ 12 < a.n ∧ a.n ≤ 1000)) ∨ (a.L.length ≤ 6 ∧ (¬ a.what = 3 ∨ (a.what = 3 ∧ a.n ≤ 12) ∨ (a.what = 3 ∧ 12 < a.n ∧ 1000 < a.n))) := by omega
  rcases hcc with hcc | ⟨h6, hcc⟩
  ·rcases hcc with h6 | ⟨h6, h7, h8, h9⟩
   case' inl => have g1 : (6 : Int) < (a.L.length : Int) := (by omega)
   case' inr => have g1 : ¬ (6 : Int) < (a.L.length : Int) := (by omega); have g2 := beq_yes h7; clear h7
   all_goals
    go_wp2_with fail
    go_ret
    exact ⟨⟨false, rfl, fun h => by cases h⟩, rfl⟩
  have g1 : ¬ (6 : Int) < (a.L.length : Int) := by omega
  rcases hcc with h7 | ⟨h7, h8⟩ | ⟨h7, h8, h9⟩
  case' inr.inl => have g2 := beq_no h7; clear h7
  case' inr.inr.inl => have g2 := beq_yes h7; have g3 : ¬ 12 < a.n := (by omega); clear h7
  case' inr.inr.inr => have g2 := beq_yes h7; have g3 : ¬ a.n ≤ 1000 := (by omega); clear h7
  all_goals
   go_wp2_with fail
   go_loopw [6] (fun x wr => ∃ k : Nat, k ≤ a.L.length ∧ x = .int .i64 k ∧ w = wr ∧ Hid (∀ (j : Nat) (y : Ln), j < k → a.L[j]? = some y → y.1.length ≤ 12)) (fun x _ => a.L.length - (intOf x).toNat)
   case atStart => exact ⟨0, Nat.zero_le _, rfl, rfl, Lib.hid (fun j a h => by omega)⟩
   case round =>
    obtain ⟨k, hk, rfl, rfl, HG⟩ := hrel
    by_cases hkl : k < a.L.length
    case pos =>
     have k1 : (k : Int) < (a.L.length : Int) := by omega
     have k0 : (0 : Int) ≤ (k : Int) := by omega
     obtain ⟨y, hy⟩ := get_of hkl
     obtain ⟨b2, o2, A2, c2, hA2, hz2, hd1, hd2, hrd⟩ := HK.out.1.at_ hy
     have hc49' : w.cell? ⟨b, off + i * 50 + 49, none⟩ = some (.slice (some ⟨b2, o2, none⟩) a.L.length a.c) := by rw [hc49, hA2]
     have HY := Lib.hid hy
     have hy63 : y.1.length ≤ 9223372036854775807 := by have := HK.out.2.2 y (List.mem_of_getElem? hy); unfold maxLen at this; omega
     clear hy hrd hA2
     by_cases h12 : 12 < y.1.length
     case pos =>
      have m1 : (12 : Int) < (y.1.length : Int) := by omega
      clear hc49
      go_wp2_with fail
      go_ret
      exact ⟨⟨false, rfl, fun h => by cases h⟩, rfl⟩
     case neg =>
      have m1 : ¬ (12 : Int) < (y.1.length : Int) := by omega
      have HN := Lib.hid (show ∀ (j : Nat) (z : Ln), j < k + 1 → a.L[j]? = some z → z.1.length ≤ 12 from fun j z hj hz => by
       by_cases hjk : j < k
       ·exact HG.out j z hjk hz
       ·obtain rfl : j = k := by omega
        rw [HY.out] at hz
        cases hz
        omega)
      clear hc49
      go_wp2_with fail
      go_roundw
      case rel => exact ⟨k + 1, by omega, by go_num, by trivial, HN⟩
      case measure => simp [intOf]; omega
    case neg =>
     have k1 : ¬ (k : Int) < (a.L.length : Int) := by omega
     have HN := Lib.hid (show ∀ (j : Nat) (z : Act24), j < i + 1 → l[j]? = some z → Few24 z from fun j z hj hz => by
      by_cases hji : j < i
      ·exact HF.out j z hji hz
      ·obtain rfl : j = i := by omega
       rw [HA.out] at hz
       cases hz
       exact ⟨h6, fun y hy => by
        obtain ⟨q, hq⟩ := List.getElem?_of_mem hy
        exact HG.out q y (by have := (List.getElem?_eq_some_iff.1 hq).1; omega) hq⟩)
     go_wp2_with fail
     go_roundw
     case rel => exact ⟨i + 1, by omega, by go_num, by trivial, HN⟩
     case measure => simp [intOf]; omega
end Go.Proofs.YtdndoikgnohkkaaDoor

set_option linter.constructorNameAsVariable false
set_option maxRecDepth 100000
namespace Go.Proofs.YtdndoikgnohkkaaDoor
open Go.ChangeShapes Go.WideShapes Go.ChangeAt Go.RowKit Go.Deep Go.WideElems

instance : Inhabited Act24 := ⟨⟨0, 0, 0, 0, cell0, saved0, pen0, none, 0, []⟩⟩
theorem list18 {α : Type} {l : List α} (h : l.length = 18) : ∃ c0 c1 c2 c3 c4 c5 c6 c7 c8 c9 c10 c11 c12 c13 c14 c15 c16 c17 : α, l = [c0, c1, c2, c3, c4, c5, c6, c7, c8, c9, c10, c11, c12, c13, c14, c15, c16, c17] := by
 obtain ⟨c0, r0, rfl, h0⟩ := list1 h
 obtain ⟨c1, r1, rfl, h1⟩ := list1 h0
 obtain ⟨c2, r2, rfl, h2⟩ := list1 h1
 obtain ⟨c3, r3, rfl, h3⟩ := list1 h2
 obtain ⟨c4, r4, rfl, h4⟩ := list1 h3
 obtain ⟨c5, r5, rfl, h5⟩ := list1 h4
 obtain ⟨c6, r6, rfl, h6⟩ := list1 h5
 obtain ⟨c7, r7, rfl, h7⟩ := list1 h6
 obtain ⟨c8, r8, rfl, h8⟩ := list1 h7
 obtain ⟨c9, r9, rfl, h9⟩ := list1 h8
 obtain ⟨c10, r10, rfl, h10⟩ := list1 h9
 obtain ⟨c11, r11, rfl, h11⟩ := list1 h10
 obtain ⟨c12, r12, rfl, h12⟩ := list1 h11
 obtain ⟨c13, r13, rfl, h13⟩ := list1 h12
 obtain ⟨c14, r14, rfl, h14⟩ := list1 h13
 obtain ⟨c15, r15, rfl, h15⟩ := list1 h14
 obtain ⟨c16, r16, rfl, h16⟩ := list1 h15
 obtain ⟨c17, r17, rfl, h17⟩ := list1 h16
 obtain rfl := List.length_eq_zero_iff.1 h17
 exact ⟨c0, c1, c2, c3, c4, c5, c6, c7, c8, c9, c10, c11, c12, c13, c14, c15, c16, c17, rfl⟩
theorem list50 {α : Type} {l : List α} (h : l.length = 50) : ∃ c0 c1 c2 c3 c4 c5 c6 c7 c8 c9 c10 c11 c12 c13 c14 c15 c16 c17 c18 c19 c20 c21 c22 c23 c24 c25 c26 c27 c28 c29 c30 c31 c32 c33 c34 c35 c36 c37 c38 c39 c40 c41 c42 c43 c44 c45 c46 c47 c48 c49 : α, l = [c0, c1, c2, c3, c4, c5, c6, c7, c8, c9, c10, c11, c12, c13, c14, c15, c16, c17, c18, c19, c20, c21, c22, c23, c24, c25, c26, c27, c28, c29, c30, c31, c32, c33, c34, c35, c36, c37, c38, c39, c40, c41, c42, c43, c44, c45, c46, c47, c48, c49] := by
 obtain ⟨c0, r0, rfl, h0⟩ := list1 h
 obtain ⟨c1, r1, rfl, h1⟩ := list1 h0
 obtain ⟨c2, r2, rfl, h2⟩ := list1 h1
 obtain ⟨c3, r3, rfl, h3⟩ := list1 h2
 obtain ⟨c4, r4, rfl, h4⟩ := list1 h3
 obtain ⟨c5, r5, rfl, h5⟩ := list1 h4
 obtain ⟨c6, r6, rfl, h6⟩ := list1 h5
 obtain ⟨c7, r7, rfl, h7⟩ := list1 h6
 obtain ⟨c8, r8, rfl, h8⟩ := list1 h7
 obtain ⟨c9, r9, rfl, h9⟩ := list1 h8
 obtain ⟨c10, r10, rfl, h10⟩ := list1 h9
 obtain ⟨c11, r11, rfl, h11⟩ := list1 h10
 obtain ⟨c12, r12, rfl, h12⟩ := list1 h11
 obtain ⟨c13, r13, rfl, h13⟩ := list1 h12
 obtain ⟨c14, r14, rfl, h14⟩ := list1 h13
 obtain ⟨c15, r15, rfl, h15⟩ := list1 h14
 obtain ⟨c16, r16, rfl, h16⟩ := list1 h15
 obtain ⟨c17, r17, rfl, h17⟩ := list1 h16
 obtain ⟨c18, r18, rfl, h18⟩ := list1 h17
 obtain ⟨c19, r19, rfl, h19⟩ := list1 h18
 obtain ⟨c20, r20, rfl, h20⟩ := list1 h19
 obtain ⟨c21, r21, rfl, h21⟩ := list1 h20
 obtain ⟨c22, r22, rfl, h22⟩ := list1 h21
 obtain ⟨c23, r23, rfl, h23⟩ := list1 h22
 obtain ⟨c24, r24, rfl, h24⟩ := list1 h23
 obtain ⟨c25, r25, rfl, h25⟩ := list1 h24
 obtain ⟨c26, r26, rfl, h26⟩ := list1 h25
 obtain ⟨c27, r27, rfl, h27⟩ := list1 h26
 obtain ⟨c28, r28, rfl, h28⟩ := list1 h27
 obtain ⟨c29, r29, rfl, h29⟩ := list1 h28
 obtain ⟨c30, r30, rfl, h30⟩ := list1 h29
 obtain ⟨c31, r31, rfl, h31⟩ := list1 h30
 obtain ⟨c32, r32, rfl, h32⟩ := list1 h31
 obtain ⟨c33, r33, rfl, h33⟩ := list1 h32
 obtain ⟨c34, r34, rfl, h34⟩ := list1 h33
 obtain ⟨c35, r35, rfl, h35⟩ := list1 h34
 obtain ⟨c36, r36, rfl, h36⟩ := list1 h35
 obtain ⟨c37, r37, rfl, h37⟩ := list1 h36
 obtain ⟨c38, r38, rfl, h38⟩ := list1 h37
 obtain ⟨c39, r39, rfl, h39⟩ := list1 h38
 obtain ⟨c40, r40, rfl, h40⟩ := list1 h39
 obtain ⟨c41, r41, rfl, h41⟩ := list1 h40
 obtain ⟨c42, r42, rfl, h42⟩ := list1 h41
 obtain ⟨c43, r43, rfl, h43⟩ := list1 h42
 obtain ⟨c44, r44, rfl, h44⟩ := list1 h43
 obtain ⟨c45, r45, rfl, h45⟩ := list1 h44
 obtain ⟨c46, r46, rfl, h46⟩ := list1 h45
 obtain ⟨c47, r47, rfl, h47⟩ := list1 h46
 obtain ⟨c48, r48, rfl, h48⟩ := list1 h47
 obtain ⟨c49, r49, rfl, h49⟩ := list1 h48
 obtain rfl := List.length_eq_zero_iff.1 h49
 exact ⟨c0, c1, c2, c3, c4, c5, c6, c7, c8, c9, c10, c11, c12, c13, c14, c15, c16, c17, c18, c19, c20, c21, c22, c23, c24, c25, c26, c27, c28, c29, c30, c31, c32, c33, c34, c35, c36, c37, c38, c39, c40, c41, c42, c43, c44, c45, c46, c47, c48, c49, rfl⟩
section
variable {H : Type} {enc : TypeId × Value → H}
theorem cells_act24 : Tryd.prog.cellsOf 66 = 50 := by kernel_rfl
theorem cells_put24 : Tryd.prog.cellsOf 63 = 18 := by kernel_rfl
theorem cells_lines24 : Tryd.prog.cellsOf 64 = 1 := by kernel_rfl
theorem trod_lines24 {w : World} {fuel : Nat} {cs : List Value} {x : DataW H × List MemPlace} {hd : Bool} (h : DataW.trod enc Tryd.prog w 0 (fun _ => true) hd fuel 64 cs = some x) : ∃ (A : Option Addr) (c : Nat) (L : List Ln), cs = [.slice A L.length c] ∧ RdL w A c L ∧ c ≤ maxLen ∧ ∀ l ∈ L, l.1.length ≤ maxLen := by
 obtain ⟨A, c, l, rfl, h2, h3, h4⟩ := trod_recs (Pr := fun a : ALine => RdC w a.A a.c a.cs ∧ a.c ≤ maxLen) alv Tryd.underlying64 cells_line (by decide) alv_size (fun fuel cs' x' h => by obtain ⟨A, c, l, s, he, hr, hm⟩ := trod_line h; exact ⟨⟨A, c, l, s⟩, he, hr, hm⟩) h
 refine ⟨A, c, l.map fun a => (a.cs, a.s), by simp, rdl_of h2 h4, h3, fun x hx => ?_⟩
 obtain ⟨a, ha, rfl⟩ := List.mem_map.1 hx
 exact Nat.le_trans (h4 a ha).1.1 (h4 a ha).2
theorem trod_put24 {w : World} {base : Nat} {sp : Nat → Bool} {fuel : Nat} {cs : List Value} {x : DataW H × List MemPlace} {hd : Bool} (h : DataW.trod enc Tryd.prog w base sp hd fuel 63 cs = some x) : ∃ (a b : Int) (y : Cell), cs = (pw a b y).toList := by
 obtain ⟨xs, n, _, _, hlen, hxl, hf⟩ := DataW.trod_struct Tryd.underlying63 h
 rw [cells_put24] at hlen
 have h0 : DataW.trod enc Tryd.prog w base sp hd n 3 ((cs.drop 0).take (Tryd.prog.cellsOf 3)) = xs[0]? := hf 0 _ rfl
 have h1 : DataW.trod enc Tryd.prog w base sp hd n 3 ((cs.drop 1).take (Tryd.prog.cellsOf 3)) = xs[1]? := hf 1 _ rfl
 have h2 : DataW.trod enc Tryd.prog w base sp hd n 61 ((cs.drop 2).take (Tryd.prog.cellsOf 61)) = xs[2]? := hf 2 _ rfl
 obtain ⟨z2, e2⟩ := some_of (show (xs[2]?).isSome = true by simp [hxl])
 simp only [cells_int, cells_cell14] at h0 h1 h2
 obtain ⟨y, hy⟩ := trod_cell (h2.trans e2)
 obtain ⟨c0, c1, c2, c3, c4, c5, c6, c7, c8, c9, c10, c11, c12, c13, c14, c15, c16, c17, rfl⟩ := list18 hlen
 simp only [List.drop_zero, List.drop_succ_cons, List.take_succ_cons, List.take_zero] at h0 h1 hy
 obtain ⟨n0, rfl⟩ := num_field Tryd.underlying3 (by simp [hxl]) h0
 obtain ⟨n1, rfl⟩ := num_field Tryd.underlying3 (by simp [hxl]) h1
 simp only [cv, List.cons.injEq, and_true] at hy
 obtain ⟨rfl, rfl, rfl, rfl, rfl, rfl, rfl, rfl, rfl, rfl, rfl, rfl, rfl, rfl, rfl, rfl⟩ := hy
 exact ⟨n0, n1, y, rfl⟩
theorem trod_act24 {w : World} {fuel : Nat} {cs : List Value} {x : DataW H × List MemPlace} {hd : Bool} (h : DataW.trod enc Tryd.prog w 0 (fun _ => true) hd fuel 66 cs = some x) : ∃ a : Act24, cs = (av24 a).toList ∧ Ok24 w a := by
 obtain ⟨xs, n, _, _, hlen, hxl, hf⟩ := DataW.trod_struct Tryd.underlying66 h
 rw [cells_act24] at hlen
 have h0 : DataW.trod enc Tryd.prog w 0 (fun _ => true) hd n 3 ((cs.drop 0).take (Tryd.prog.cellsOf 3)) = xs[0]? := hf 0 _ rfl
 have h1 : DataW.trod enc Tryd.prog w 0 (fun _ => true) hd n 3 ((cs.drop 1).take (Tryd.prog.cellsOf 3)) = xs[1]? := hf 1 _ rfl
 have h2 : DataW.trod enc Tryd.prog w 0 (fun _ => true) hd n 63 ((cs.drop 2).take (Tryd.prog.cellsOf 63)) = xs[2]? := hf 2 _ rfl
 have h3 : DataW.trod enc Tryd.prog w 0 (fun _ => true) hd n 35 ((cs.drop 20).take (Tryd.prog.cellsOf 35)) = xs[3]? := hf 3 _ rfl
 have h4 : DataW.trod enc Tryd.prog w 0 (fun _ => true) hd n 29 ((cs.drop 38).take (Tryd.prog.cellsOf 29)) = xs[4]? := hf 4 _ rfl
 have h5 : DataW.trod enc Tryd.prog w 0 (fun _ => true) hd n 64 ((cs.drop 49).take (Tryd.prog.cellsOf 64)) = xs[5]? := hf 5 _ rfl
 obtain ⟨z2, e2⟩ := some_of (show (xs[2]?).isSome = true by simp [hxl])
 obtain ⟨z3, e3⟩ := some_of (show (xs[3]?).isSome = true by simp [hxl])
 obtain ⟨z4, e4⟩ := some_of (show (xs[4]?).isSome = true by simp [hxl])
 obtain ⟨z5, e5⟩ := some_of (show (xs[5]?).isSome = true by simp [hxl])
 simp only [cells_int, cells_put24, cells_saved, cells_pen, cells_lines24] at h0 h1 h2 h3 h4 h5
 obtain ⟨a, b, y, hp⟩ := trod_put24 (h2.trans e2)
 obtain ⟨s, hs⟩ := trod_saved (h3.trans e3)
 obtain ⟨q, hq⟩ := trod_pen (h4.trans e4)
 obtain ⟨A, c, L, hl, hr, hm, hlm⟩ := trod_lines24 (h5.trans e5)
 obtain ⟨c0, c1, c2, c3, c4, c5, c6, c7, c8, c9, c10, c11, c12, c13, c14, c15, c16, c17, c18, c19, c20, c21, c22, c23, c24, c25, c26, c27, c28, c29, c30, c31, c32, c33, c34, c35, c36, c37, c38, c39, c40, c41, c42, c43, c44, c45, c46, c47, c48, c49, rfl⟩ := list50 hlen
 simp only [List.drop_zero, List.drop_succ_cons, List.take_succ_cons, List.take_zero] at h0 h1 hp hs hq hl
 obtain ⟨n0, rfl⟩ := num_field Tryd.underlying3 (by simp [hxl]) h0
 obtain ⟨n1, rfl⟩ := num_field Tryd.underlying3 (by simp [hxl]) h1
 simp only [pw, List.cons.injEq, and_true] at hp
 obtain ⟨rfl, rfl, rfl, rfl, rfl, rfl, rfl, rfl, rfl, rfl, rfl, rfl, rfl, rfl, rfl, rfl, rfl, rfl⟩ := hp
 simp only [sv, List.cons.injEq, and_true] at hs
 obtain ⟨rfl, rfl, rfl, rfl, rfl, rfl, rfl, rfl, rfl, rfl, rfl, rfl, rfl, rfl, rfl, rfl, rfl, rfl⟩ := hs
 simp only [pv, List.cons.injEq, and_true] at hq
 obtain ⟨rfl, rfl, rfl, rfl, rfl, rfl, rfl, rfl, rfl, rfl, rfl⟩ := hq
 simp only [List.cons.injEq, and_true] at hl
 subst hl
 exact ⟨⟨n0, n1, a, b, y, s, q, A, c, L⟩, rfl, hr, hm, hlm⟩
theorem open_acts24 {v : Value} {w : World} {r : Reach} {b0 : Nat} {hd : Bool} {d : DataW H} {p : List MemPlace} (hv : Value.okWide Tryd.prog w r b0 57 v) (h : DataW.Trod enc Tryd.prog w 0 (fun _ => true) hd 57 v d p) : ∃ (A : Option Addr) (c : Nat) (l : List Act24), v = .slice A l.length c ∧ RdRec w A c 50 (l.map av24) ∧ c ≤ maxLen ∧ ∀ a ∈ l, Ok24 w a :=
 open_recs (Pr := fun a => Ok24 w a) av24 Tryd.underlying57 cells_act24 (by decide) av24_size (fun fuel cs' x' h => trod_act24 h) hv h
end
end Go.Proofs.YtdndoikgnohkkaaDoor

set_option linter.constructorNameAsVariable false
set_option maxRecDepth 100000
namespace Go.Proofs.YtdndoikgnohkkaaDoor
open Go.ChangeShapes Go.WideShapes Go.ChangeAt Go.RowKit Go.Deep Go.WideElems

theorem own_knob : ownKnob Tryd.prog.godebug = none := by kernel_rfl
theorem laid_out : laidOutB Tryd.prog = true := by kernel_rfl
def pairData {H : Type} (x : Int × Int) : DataW H := .agg [.lit (.int .i32 x.1), .lit (.int .i32 x.2)]
theorem cells_pair : Tryd.prog.cellsOf 138 = 2 := by kernel_rfl
section
variable {H : Type} {enc : TypeId × Value → H} {w : World} {base : Nat} {sp : Nat → Bool} {hd : Bool} {fuel : Nat} {cs : List Value}
theorem num_lit {t : TypeId} {c : Value} {n : Int} {p : List MemPlace} (ht : Tryd.prog.underlying t = some (.int .i32)) (h : DataW.trod enc Tryd.prog w base sp hd fuel t [c] = some (.lit (.int .i32 n), p)) : c = .int .i32 n := by
 obtain ⟨m, hm, hx, _⟩ := DataW.trod_int ht h
 simp only [Prod.mk.injEq, DataW.lit.injEq, Lit.int.injEq, true_and] at hx
 simp only [List.cons.injEq, and_true] at hm
 rw [hm, hx.1]
theorem trod_pair {x : Int × Int} {p : List MemPlace} (h : DataW.trod enc Tryd.prog w base sp hd fuel 138 cs = some (pairData x, p)) : cs = [.int .i32 x.1, .int .i32 x.2] := by
 obtain ⟨xs, n, _, hx, hlen, hxl, hf⟩ := DataW.trod_array Tryd.underlying138 h
 rw [cells_pair] at hlen
 match cs, hlen, xs, hxl, hf, hx with
 | [c0, c1], _, [y0, y1], _, hf, hx =>
  have h0 := hf 0 (by omega)
  have h1 := hf 1 (by omega)
  simp only [cells_i32, Nat.zero_mul, Nat.one_mul, List.drop_zero, List.drop_succ_cons, List.take_succ_cons, List.take_zero, List.getElem?_cons_zero, List.getElem?_cons_succ] at h0 h1
  simp only [pairData, List.map_cons, List.map_nil, Prod.mk.injEq, DataW.agg.injEq, List.cons.injEq, and_true] at hx
  obtain ⟨y0a, y0b⟩ := y0
  obtain ⟨y1a, y1b⟩ := y1
  obtain ⟨⟨e0, e1⟩, _⟩ := hx
  simp only at e0 e1
  subst e0 e1
  rw [num_lit Tryd.underlying21 h0, num_lit Tryd.underlying21 h1]
theorem trod_table {t : TypeId} {tab : List (Int × Int)} {p : List MemPlace} (ht : Tryd.prog.underlying t = some (.array tab.length 138)) (h : DataW.trod enc Tryd.prog w base sp hd fuel t cs = some (.agg (tab.map pairData), p)) :
  ∀ k, k < tab.length → cs[k * 2]? = some (.int .i32 (loOf tab k)) ∧ cs[k * 2 + 1]? = some (.int .i32 (hiOf tab k)) := by
 obtain ⟨xs, n, _, hx, hlen, hxl, hf⟩ := DataW.trod_array ht h
 intro k hk
 have hkf := hf k hk
 rw [cells_pair] at hkf
 have hk2 : k < xs.length := by omega
 rw [List.getElem?_eq_getElem hk2] at hkf
 simp only [Prod.mk.injEq, DataW.agg.injEq] at hx
 have he : xs[k].1 = pairData tab[k] := by
  have := congrArg (fun l => l[k]?) hx.1
  simp only [List.getElem?_map, List.getElem?_eq_getElem hk, List.getElem?_eq_getElem hk2, Option.map_some, Option.some.injEq] at this
  exact this.symm
 have hp := trod_pair (x := tab[k]) (p := xs[k].2) (by rw [hkf, ← he])
 have g0 := congrArg (fun l => l[0]?) hp
 have g1 := congrArg (fun l => l[1]?) hp
 simp only [List.getElem?_take, List.getElem?_drop, List.getElem?_cons_zero, List.getElem?_cons_succ, Nat.add_zero] at g0 g1
 simp only [loOf, hiOf, List.getD_eq_getElem?_getD, List.getElem?_eq_getElem hk, Option.getD_some]
 exact ⟨by simpa using g0, by simpa using g1⟩
end
theorem pairs_of {W : World} {name : String} {g : Nat} {t : TypeId} {tab : List (Int × Int)} {cs : Array Value} {fuel : Nat} {p : List MemPlace} {base : Nat} {sp : Nat → Bool} {hd : Bool} {H : Type} {enc : TypeId × Value → H} (hg : Tryd.prog.globalNamed name = some g) (ht : Tryd.prog.underlying t = some (.array tab.length 138))
  (hv : W.var? Tryd.prog name = some cs) (h : DataW.trod enc Tryd.prog W base sp hd fuel t cs.toList = some (.agg (tab.map pairData), p)) (hn : 0 < tab.length) : Pairs W g tab.length (loOf tab) (hiOf tab) := by
 have hc := World.var?_cell hg hv
 have htb := trod_table ht h
 refine ⟨?_, fun k hk => ?_⟩
 ·have := (htb 0 hn).1
  have h0 := hc 0
  simp only [Nat.zero_mul, Array.getElem?_toList] at this
  rw [this] at h0
  exact block_lt_of_cell h0
 ·obtain ⟨h1, h2⟩ := htb k hk
  rw [hc, hc]
  exact ⟨by simpa using h1, by simpa using h2⟩
theorem tabs_of {W : World} (h : laidMetH Tryd.prog Rows.alternateNilRow.laid W) : Tabs W := by
 have h' : laidMet Tryd.prog Rows.alternateNilRow.laid W := h
 obtain ⟨ps, ⟨g, t, cs, fuel, p, q, hg, ht, hv, hd, ⟨g2, t2, cs2, fuel2, p2, q2, hg2, ht2, hv2, hd2, _⟩, _⟩, _⟩ := h'
 have e1 : Tryd.prog.globalNamed "scrollback/width.marks" = some 0 := by kernel_rfl
 have e2 : Tryd.prog.globalNamed "scrollback/width.wide" = some 1 := by kernel_rfl
 obtain rfl := Option.some.inj (e1.symm.trans hg)
 obtain rfl := Option.some.inj (e2.symm.trans hg2)
 have f1 : (Tryd.prog.globals[0]?).map (·.type) = some 139 := by kernel_rfl
 have f2 : (Tryd.prog.globals[1]?).map (·.type) = some 140 := by kernel_rfl
 obtain rfl := Option.some.inj (f1.symm.trans ht)
 obtain rfl := Option.some.inj (f2.symm.trans ht2)
 exact ⟨pairs_of (tab := marksTab) e1 Tryd.underlying139 hv hd (by decide), pairs_of (tab := wideTab) e2 Tryd.underlying140 hv2 hd2 (by decide)⟩
def setTab (n : Nat) (tab : List (Int × Int)) (h : Array Obj) : Array Obj := h.modify n fun
 | .cells _ t frozen => .cells (tab.flatMap fun x => [Value.int .i32 x.1, Value.int .i32 x.2]).toArray t frozen
 | o => o
noncomputable def laidWorld (os : Os) : World :=
 { World.holding Tryd.prog os ⟨#[], #[], []⟩ with heap := setTab 1 wideTab (setTab 0 marksTab (World.holding Tryd.prog os ⟨#[], #[], []⟩).heap) }
end Go.Proofs.YtdndoikgnohkkaaDoor
