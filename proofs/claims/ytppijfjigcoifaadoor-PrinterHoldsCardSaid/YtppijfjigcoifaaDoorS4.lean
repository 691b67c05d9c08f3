/-
  Part 4 of the texts on which the proofs of this seat stand: each part says ahead of it what it shows.
-/
import Derived.Test.YtppijfjigcoifaaDoorS3
import Derived.Deep.DeepCutAuto
import Derived.Deep.CutBlock
import Derived.ProofKit
import Derived.OpenShut
import Derived.Deep.Slices
import Derived.Lib.LaidTab
import Derived.ChangeSame
import Derived.Carry
import Derived.Test.YtppijfjigcoifaaDoorCards
import Derived.Test.YtppijfjigcoifaaDoorTie
import Derived.WalkKit
import Derived.Deep.DeepHandedRow
set_option linter.unusedSimpArgs false
set_option linter.unusedVariables false
namespace Go.Proofs.YtppijfjigcoifaaDoor
open Go.RowKit

theorem cv_ne (c : Cell) : ¬ cv c = #[] := by simp [cv]
def k16c (r : Int) : Cell := ⟨r, 0, 0, 0, wOf r, pen0⟩
def k16_c : Cell := ⟨99, 0, 0, 0, 1, pen0⟩
def k16_0 : List Ln := List.replicate 1 (List.replicate 4 (blank pen0), false)
def k16_1 : List Ln := printL 0 0 4 (k16c 97) false k16_0
def k16_2 : List Ln := printL 0 1 4 (k16c 20013) false k16_1
def k16_3 : List Ln := printL 0 3 4 (k16c 98) false k16_2
def k16_4 : List Ln := printL 0 3 4 (k16c 99) false k16_3
def k16_5 : List Ln := rowMod 0 (mkRow 2 769) k16_4
def k16_6 : List Ln := printL 0 0 4 (k16c 122) true k16_5
theorem k16_len0 : k16_0.length = 1 := by decide +kernel
theorem k16_rect0 : Rect 4 k16_0 := by intro l hl; revert l; decide +kernel
theorem k16_len1 : k16_1.length = 1 := by decide +kernel
theorem k16_rect1 : Rect 4 k16_1 := by intro l hl; revert l; decide +kernel
theorem k16_len2 : k16_2.length = 1 := by decide +kernel
theorem k16_rect2 : Rect 4 k16_2 := by intro l hl; revert l; decide +kernel
theorem k16_len3 : k16_3.length = 1 := by decide +kernel
theorem k16_rect3 : Rect 4 k16_3 := by intro l hl; revert l; decide +kernel
theorem k16_len4 : k16_4.length = 1 := by decide +kernel
theorem k16_rect4 : Rect 4 k16_4 := by intro l hl; revert l; decide +kernel
theorem k16_len5 : k16_5.length = 1 := by decide +kernel
theorem k16_rect5 : Rect 4 k16_5 := by intro l hl; revert l; decide +kernel
theorem k16_V4 : rowOk (k16_4[0]'(by rw [k16_len4]; decide)).1 = true := by decide +kernel
theorem k16_row : k16_6[0]? = some ([k16c 122, k16c 97, ⟨20013, 769, 0, 0, 2, pen0⟩, cell0], false) := by decide +kernel
theorem k16_at3 : ((k16_5[0]'(by rw [k16_len5]; decide)).1)[3]? = some k16_c := by decide +kernel
section
variable {w0 w : World} {os : List Ob} {k p : Nat} {L L2 : List Ln} {j nc c0 : Nat} {c1 c2 r : Int} {pend np auto ins : Bool}
theorem k16_print (hT : Tabs w0) (hS : Objs w0 w os) (hk : os[k]? = some (.grid p 58 ((4 : Nat) : Int) L)) (hlen : L.length = 1) (hR : Rect 4 L) (hin : inG ((0 : Nat) : Int) (j : Int) pend 1 4 = true) (hw : 1 ≤ wOf r) (hwr : wrapB 4 j pend auto (wOf r) = false)
  (h1 : prCol 4 (prAt 4 j (prCell 4 (k16c r))) (prCell 4 (k16c r)) = nc) (h2 : prPend 4 (prAt 4 j (prCell 4 (k16c r))) (prCell 4 (k16c r)) auto = np) (h3 : printL 0 j 4 (k16c r) ins L = L2) (hc1 : (j : Int) = c1) (hc2 : (nc : Int) = c2) :
  Calls Tryd.prog 27 #[.pointer (some ⟨p, 0, none⟩), .agg #[.int .i64 0, .int .i64 c1, .bool pend], .int .i32 r, .agg (pv pen0), .bool auto, .bool ins, .agg #[.int .i64 0, .int .i64 c2, .bool np], .int .i64 0] w fun e w' => e = .returned (.bool true) ∧ Objs w0 w' (os.set k (.grid p 58 ((4 : Nat) : Int) L2)) := by
 subst hc1; subst hc2
 have h := prints_yes (i := 0) (j := j) (pend := pend) (auto := auto) (ins := ins) (q := pen0) (r := r) hT hS hk (by decide) (by decide) (by omega) hR (by rw [hlen]; exact hin) hw (by decide +kernel) hwr (k16c r) rfl
 rw [h1, h2, h3] at h
 exact h
theorem k16_wrap (hT : Tabs w0) (hS : Objs w0 w os) (hk : os[k]? = some (.grid p 58 ((4 : Nat) : Int) L)) (hlen : L.length = 1) (hin : inG 0 (j : Int) pend 1 4 = true) (hw : 1 ≤ wOf r) (hwr : wrapB 4 j pend auto (wOf r) = true) (hc1 : (j : Int) = c1) :
  Calls Tryd.prog 27 #[.pointer (some ⟨p, 0, none⟩), .agg #[.int .i64 0, .int .i64 c1, .bool pend], .int .i32 r, .agg (pv pen0), .bool auto, .bool ins, .agg #[.int .i64 0, .int .i64 0, .bool false], .int .i64 8] w fun e w' => e = .returned (.bool true) ∧ Objs w0 w' os := by
 subst hc1
 exact prints_wrap hT hS hk (by decide) (by decide) (by omega) (by rw [hlen]; exact hin) hw (by decide +kernel) hwr
theorem k16_wraps {b : Bool} (hT : Tabs w0) (hS : Objs w0 w os) (hk : os[k]? = some (.grid p 58 ((4 : Nat) : Int) L)) (hlen : L.length = 1) (hin : inG 0 (j : Int) pend 1 4 = true) (hw : 1 ≤ wOf r) (hwr : wrapB 4 j pend auto (wOf r) = b) (hc1 : (j : Int) = c1) :
  Calls Tryd.prog 28 #[.pointer (some ⟨p, 0, none⟩), .agg #[.int .i64 0, .int .i64 c1, .bool pend], .int .i32 r, .bool auto, .bool b, .int .i64 0] w fun e w' => e = .returned (.bool true) ∧ Objs w0 w' os := by
 subst hc1; subst hwr
 exact wraps_yes hT hS hk (by decide) (by decide) (by omega) (by rw [hlen]; exact hin) hw
theorem k16_mark {b : Bool} (hT : Tabs w0) (hS : Objs w0 w os) (hk : os[k]? = some (.grid p 58 ((4 : Nat) : Int) L)) (hlen : L.length = 1) (hR : Rect 4 L) (hV : rowOk (L[0]'(by omega)).1 = true) (hin : inG ((0 : Nat) : Int) c1 false 1 4 = true) (hw : wOf r = 0) (hcol : decide (c1 = (c0 : Int) + 1) = true) (hm : L[0]? = some (L[0]'(by omega))) (hb : mkB (L[0]'(by omega)).1 c0 r = b) (h3 : rowMod 0 (mkRow c0 r) L = L2) (hc : c1 = c1) :
  Calls Tryd.prog 29 #[.pointer (some ⟨p, 0, none⟩), .agg #[.int .i64 0, .int .i64 c1, .bool false], .int .i32 r, .bool b, .int .i64 0] w fun e w' => e = .returned (.bool true) ∧ Objs w0 w' (os.set k (.grid p 58 ((4 : Nat) : Int) L2)) := by
 have h := marks_at (i := 0) (c0 := c0) (col := c1) (pend := false) (r := r) hT hS hk (by decide) (by decide) (by omega) hR (by rw [hlen]; exact hin) hw (.inr ⟨rfl, of_decide_eq_true hcol⟩) hm (rowOk_is.1 hV)
 rw [hb, h3] at h
 exact h
end
set_option maxRecDepth 100000 in
set_option maxHeartbeats 16000000 in
theorem l16known_any (w : World) (hT : Tabs w) : Calls Tryd.prog 30 #[] w fun e w' => e = .returned (.bool true) ∧ Below w.heap.size w w' := by
 have HT := Lib.hid hT
 clear hT
 go_enter Tryd.func30, Tryd.ntmps30
 go_wp2_with fail
 refine (gridNew_yes 1 4 (by decide) (by decide) (by decide) (by decide) w _ [] (objs_start w)).mono ?_
 rintro e w1 ⟨p, rfl, hS⟩
 have T0 := Lib.hid (show Objs w w1 [.grid p 58 ((4 : Nat) : Int) k16_0] from hS)
 clear hS
 go_upto_region 3 with (fail)
 refine at_objsC (T0.out.alloc1 (c1 := pv pen0) (t1 := 54)) (fun W hW => ?_)
 generalize w1.heap.size = b3 at hW ⊢
 have T1 := Lib.hid hW
 clear hW T0
 refine wp_region_stage (w0 := w) (os := []) (by kernel_rfl) (by kernel_rfl) (by kernel_rfl) [(1, 11, [], fun vs => .grid p 58 ((4 : Nat) : Int) k16_1), (1, 19, [], fun vs => .grid p 58 ((4 : Nat) : Int) k16_2), (1, 27, [], fun vs => .grid p 58 ((4 : Nat) : Int) k16_3)] [[], [], [], [], [], [], [], [], [], [0], [], [1], [], [], [], [], [], [0], [], [1], [], [], [], [], [], [0], [], [1], [], [], [], [], [], [1], [], [], [], [], [], [1], [], [], [], [], [], [1], [], []] [.box b3 54 (pv pen0), .grid p 58 ((4 : Nat) : Int) k16_0] (fun opn u => match opn with | 0 => u = .pointer (some ⟨p, 0, none⟩) | 1 => u = .bool false | 2 => u = .bool false | 3 => u = .int .i64 0 | 4 => u = .bool false | 5 => u = .bool false | 6 => u = .bool false | 7 => u = .pointer (some ⟨p, 0, none⟩) | 8 => u = .agg #[.int .i64 0, .int .i64 0, .bool false] | 9 => u = .agg (pv pen0) | 10 => u = .agg #[.int .i64 0, .int .i64 1, .bool false] | 11 => u = .bool true | 12 => u = .bool false | 13 => u = .bool false | 14 => u = .bool false | 15 => u = .pointer (some ⟨p, 0, none⟩) | 16 => u = .agg #[.int .i64 0, .int .i64 1, .bool false] | 17 => u = .agg (pv pen0) | 18 => u = .agg #[.int .i64 0, .int .i64 3, .bool false] | 19 => u = .bool true | 20 => u = .bool false | 21 => u = .bool false | 22 => u = .bool false | 23 => u = .pointer (some ⟨p, 0, none⟩) | 24 => u = .agg #[.int .i64 0, .int .i64 3, .bool false] | 25 => u = .agg (pv pen0) | 26 => u = .agg #[.int .i64 0, .int .i64 3, .bool true] | 27 => u = .bool true | 28 => u = .bool false | 29 => u = .bool false | 30 => u = .bool false | 31 => u = .pointer (some ⟨p, 0, none⟩) | 32 => u = .agg #[.int .i64 0, .int .i64 3, .bool true] | 33 => u = .bool true | 34 => u = .bool false | 35 => u = .bool false | 36 => u = .bool false | 37 => u = .pointer (some ⟨p, 0, none⟩) | 38 => u = .agg #[.int .i64 0, .int .i64 3, .bool false] | 39 => u = .bool true | 40 => u = .bool false | 41 => u = .bool false | 42 => u = .bool false | 43 => u = .pointer (some ⟨p, 0, none⟩) | 44 => u = .agg #[.int .i64 0, .int .i64 3, .bool false] | 45 => u = .bool true | 46 => u = .bool false | 47 => u = .bool false | _ => True) (fun vs => [.box b3 54 (pv pen0), .grid p 58 ((4 : Nat) : Int) k16_3]) (by kernel_rfl) (fun vs => by rfl) T1.out ?_ ?_
 ·apply sc
  ·intro a w' vs σ hS hl hs hk
   have f1 : a.tmps[1]?.getD undef = .pointer (some ⟨p, 0, none⟩) := sof hk
   exact rp (pt p 0) (by simp [execOp, Act.eval, f1, go_sem]) hl hs hS
  apply sc
  ·intro a w' vs σ hS hl hs hk
   have f12 : a.tmps[12]?.getD undef = .pointer (some ⟨p, 0, none⟩) := svf hk 0
   exact rp (.bool false) (by simp [execOp, Act.eval, f12, go_sem]) hl hs hS
  apply sc
  ·intro a w' vs σ hS hl hs hk
   have f13 : a.tmps[13]?.getD undef = .bool false := svf hk 1
   exact rp (.bool false) (by simp [execOp, Act.eval, f13, go_sem]) hl hs hS
  apply sc
  ·intro a w' vs σ hS hl hs hk
   have f2 : a.tmps[2]?.getD undef = .int .i64 0 := sof hk
   exact rq (.int .i64 0) (wanted_yes rfl rfl rfl (svv hk 2)) (by simp [execOp, Act.eval, f2, go_sem]) hl hs hS
  apply sc
  ·intro a w' vs σ hS hl hs hk
   have f15 : a.tmps[15]?.getD undef = .int .i64 0 := svf hk 3
   exact rq (.bool false) (wanted_yes rfl rfl rfl (svv hk 2)) (by simp [execOp, Act.eval, f15, go_sem]) hl hs hS
  apply sc
  ·intro a w' vs σ hS hl hs hk
   have f14 : a.tmps[14]?.getD undef = .bool false := svf hk 2
   have f16 : a.tmps[16]?.getD undef = .bool false := svf hk 4
   exact rp (.bool false) (by simp [execOp, Act.eval, f14, f16, go_sem]) hl hs hS
  apply sc
  ·intro a w' vs σ hS hl hs hk
   have f17 : a.tmps[17]?.getD undef = .bool false := svf hk 5
   exact rp (.bool false) (by simp [execOp, Act.eval, f17, go_sem]) hl hs hS
  apply sc
  ·intro a w' vs σ hS hl hs hk
   have f1 : a.tmps[1]?.getD undef = .pointer (some ⟨p, 0, none⟩) := sof hk
   exact rq (pt p 0) (wanted_yes rfl rfl rfl (svv hk 6)) (by simp [execOp, Act.eval, f1, go_sem]) hl hs hS
  apply sc
  ·intro a w' vs σ hS hl hs hk
   exact ro_call (f := 64) (wanted_yes rfl rfl rfl (svv hk 6)) rfl (by simp only [List.map_toArray, List.map_cons, List.map_nil, Act.eval] <;> rfl) (fun _ _ => by kernel_rfl) ((l16at_any 0 false hS).mono fun e w2 ⟨h1, h2⟩ => ⟨_, h1, sp_same (by kernel_rfl) hl hs h2 rfl, trivial⟩)
  apply sc
  ·intro a w' vs σ hS hl hs hk
   have f3 : a.tmps[3]?.getD undef = .pointer (some ⟨b3, 0, none⟩) := sof hk
   have hx := (hS.box (sg (hs 0 (by decide)))).penAt
   exact rq (.agg (pv pen0)) (wanted_yes rfl rfl rfl (svv hk 6)) (by simp [execOp, Act.eval, f3, go_sem, hx]) hl hs hS
  apply sc
  ·intro a w' vs σ hS hl hs hk
   exact ro_call (f := 64) (wanted_yes rfl rfl rfl (svv hk 6)) rfl (by simp only [List.map_toArray, List.map_cons, List.map_nil, Act.eval] <;> rfl) (fun _ _ => by kernel_rfl) ((l16at_any 1 false hS).mono fun e w2 ⟨h1, h2⟩ => ⟨_, h1, sp_same (by kernel_rfl) hl hs h2 rfl, trivial⟩)
  apply sc
  ·intro a w' vs σ hS hl hs hk
   have e19 : a.tmps.getD 19 undef = .pointer (some ⟨p, 0, none⟩) := svv hk 7
   have e20 : a.tmps.getD 20 undef = .agg #[.int .i64 0, .int .i64 0, .bool false] := svv hk 8
   have e21 : a.tmps.getD 21 undef = .agg (pv pen0) := svv hk 9
   have e22 : a.tmps.getD 22 undef = .agg #[.int .i64 0, .int .i64 1, .bool false] := svv hk 10
   exact ro_call (f := 27) (wanted_yes rfl rfl rfl (svv hk 6)) rfl (by simp only [List.map_toArray, List.map_cons, List.map_nil, Act.eval, e19, e20, e21, e22] <;> rfl) (fun _ _ => by kernel_rfl) ((k16_print (j := 0) HT.out hS (k := 1) (sg (hs 1 (by decide))) k16_len0 k16_rect0 (by decide +kernel) (by decide +kernel) (by decide +kernel) (by decide +kernel) (by decide +kernel) rfl rfl rfl).mono fun e w2 ⟨h1, h2⟩ => ⟨_, h1, sp_set 1 (.grid p 58 ((4 : Nat) : Int) k16_1) (by kernel_rfl) (by simp) (by decide) hl hs (by rfl) h2 rfl, trivial⟩)
  apply sc
  ·intro a w' vs σ hS hl hs hk
   have f23 : a.tmps[23]?.getD undef = .bool true := svf hk 11
   exact rq (.bool false) (wanted_yes rfl rfl rfl (svv hk 6)) (by simp [execOp, Act.eval, f23, go_sem]) hl hs hS
  apply sc
  ·intro a w' vs σ hS hl hs hk
   have f18 : a.tmps[18]?.getD undef = .bool false := svf hk 6
   have f24 : a.tmps[24]?.getD undef = .bool false := svf hk 12
   exact rp (.bool false) (by simp [execOp, Act.eval, f18, f24, go_sem]) hl hs hS
  apply sc
  ·intro a w' vs σ hS hl hs hk
   have f25 : a.tmps[25]?.getD undef = .bool false := svf hk 13
   exact rp (.bool false) (by simp [execOp, Act.eval, f25, go_sem]) hl hs hS
  apply sc
  ·intro a w' vs σ hS hl hs hk
   have f1 : a.tmps[1]?.getD undef = .pointer (some ⟨p, 0, none⟩) := sof hk
   exact rq (pt p 0) (wanted_yes rfl rfl rfl (svv hk 14)) (by simp [execOp, Act.eval, f1, go_sem]) hl hs hS
  apply sc
  ·intro a w' vs σ hS hl hs hk
   exact ro_call (f := 64) (wanted_yes rfl rfl rfl (svv hk 14)) rfl (by simp only [List.map_toArray, List.map_cons, List.map_nil, Act.eval] <;> rfl) (fun _ _ => by kernel_rfl) ((l16at_any 1 false hS).mono fun e w2 ⟨h1, h2⟩ => ⟨_, h1, sp_same (by kernel_rfl) hl hs h2 rfl, trivial⟩)
  apply sc
  ·intro a w' vs σ hS hl hs hk
   have f3 : a.tmps[3]?.getD undef = .pointer (some ⟨b3, 0, none⟩) := sof hk
   have hx := (hS.box (sg (hs 0 (by decide)))).penAt
   exact rq (.agg (pv pen0)) (wanted_yes rfl rfl rfl (svv hk 14)) (by simp [execOp, Act.eval, f3, go_sem, hx]) hl hs hS
  apply sc
  ·intro a w' vs σ hS hl hs hk
   exact ro_call (f := 64) (wanted_yes rfl rfl rfl (svv hk 14)) rfl (by simp only [List.map_toArray, List.map_cons, List.map_nil, Act.eval] <;> rfl) (fun _ _ => by kernel_rfl) ((l16at_any 3 false hS).mono fun e w2 ⟨h1, h2⟩ => ⟨_, h1, sp_same (by kernel_rfl) hl hs h2 rfl, trivial⟩)
  apply sc
  ·intro a w' vs σ hS hl hs hk
   have e27 : a.tmps.getD 27 undef = .pointer (some ⟨p, 0, none⟩) := svv hk 15
   have e28 : a.tmps.getD 28 undef = .agg #[.int .i64 0, .int .i64 1, .bool false] := svv hk 16
   have e29 : a.tmps.getD 29 undef = .agg (pv pen0) := svv hk 17
   have e30 : a.tmps.getD 30 undef = .agg #[.int .i64 0, .int .i64 3, .bool false] := svv hk 18
   exact ro_call (f := 27) (wanted_yes rfl rfl rfl (svv hk 14)) rfl (by simp only [List.map_toArray, List.map_cons, List.map_nil, Act.eval, e27, e28, e29, e30] <;> rfl) (fun _ _ => by kernel_rfl) ((k16_print (j := 1) HT.out hS (k := 1) (sg (hs 1 (by decide))) k16_len1 k16_rect1 (by decide +kernel) (by decide +kernel) (by decide +kernel) (by decide +kernel) (by decide +kernel) rfl rfl rfl).mono fun e w2 ⟨h1, h2⟩ => ⟨_, h1, sp_set 1 (.grid p 58 ((4 : Nat) : Int) k16_2) (by kernel_rfl) (by simp) (by decide) hl hs (by rfl) h2 rfl, trivial⟩)
  apply sc
  ·intro a w' vs σ hS hl hs hk
   have f31 : a.tmps[31]?.getD undef = .bool true := svf hk 19
   exact rq (.bool false) (wanted_yes rfl rfl rfl (svv hk 14)) (by simp [execOp, Act.eval, f31, go_sem]) hl hs hS
  apply sc
  ·intro a w' vs σ hS hl hs hk
   have f26 : a.tmps[26]?.getD undef = .bool false := svf hk 14
   have f32 : a.tmps[32]?.getD undef = .bool false := svf hk 20
   exact rp (.bool false) (by simp [execOp, Act.eval, f26, f32, go_sem]) hl hs hS
  apply sc
  ·intro a w' vs σ hS hl hs hk
   have f33 : a.tmps[33]?.getD undef = .bool false := svf hk 21
   exact rp (.bool false) (by simp [execOp, Act.eval, f33, go_sem]) hl hs hS
  apply sc
  ·intro a w' vs σ hS hl hs hk
   have f1 : a.tmps[1]?.getD undef = .pointer (some ⟨p, 0, none⟩) := sof hk
   exact rq (pt p 0) (wanted_yes rfl rfl rfl (svv hk 22)) (by simp [execOp, Act.eval, f1, go_sem]) hl hs hS
  apply sc
  ·intro a w' vs σ hS hl hs hk
   exact ro_call (f := 64) (wanted_yes rfl rfl rfl (svv hk 22)) rfl (by simp only [List.map_toArray, List.map_cons, List.map_nil, Act.eval] <;> rfl) (fun _ _ => by kernel_rfl) ((l16at_any 3 false hS).mono fun e w2 ⟨h1, h2⟩ => ⟨_, h1, sp_same (by kernel_rfl) hl hs h2 rfl, trivial⟩)
  apply sc
  ·intro a w' vs σ hS hl hs hk
   have f3 : a.tmps[3]?.getD undef = .pointer (some ⟨b3, 0, none⟩) := sof hk
   have hx := (hS.box (sg (hs 0 (by decide)))).penAt
   exact rq (.agg (pv pen0)) (wanted_yes rfl rfl rfl (svv hk 22)) (by simp [execOp, Act.eval, f3, go_sem, hx]) hl hs hS
  apply sc
  ·intro a w' vs σ hS hl hs hk
   exact ro_call (f := 64) (wanted_yes rfl rfl rfl (svv hk 22)) rfl (by simp only [List.map_toArray, List.map_cons, List.map_nil, Act.eval] <;> rfl) (fun _ _ => by kernel_rfl) ((l16at_any 3 true hS).mono fun e w2 ⟨h1, h2⟩ => ⟨_, h1, sp_same (by kernel_rfl) hl hs h2 rfl, trivial⟩)
  apply sc
  ·intro a w' vs σ hS hl hs hk
   have e35 : a.tmps.getD 35 undef = .pointer (some ⟨p, 0, none⟩) := svv hk 23
   have e36 : a.tmps.getD 36 undef = .agg #[.int .i64 0, .int .i64 3, .bool false] := svv hk 24
   have e37 : a.tmps.getD 37 undef = .agg (pv pen0) := svv hk 25
   have e38 : a.tmps.getD 38 undef = .agg #[.int .i64 0, .int .i64 3, .bool true] := svv hk 26
   exact ro_call (f := 27) (wanted_yes rfl rfl rfl (svv hk 22)) rfl (by simp only [List.map_toArray, List.map_cons, List.map_nil, Act.eval, e35, e36, e37, e38] <;> rfl) (fun _ _ => by kernel_rfl) ((k16_print (j := 3) HT.out hS (k := 1) (sg (hs 1 (by decide))) k16_len2 k16_rect2 (by decide +kernel) (by decide +kernel) (by decide +kernel) (by decide +kernel) (by decide +kernel) rfl rfl rfl).mono fun e w2 ⟨h1, h2⟩ => ⟨_, h1, sp_set 1 (.grid p 58 ((4 : Nat) : Int) k16_3) (by kernel_rfl) (by simp) (by decide) hl hs (by rfl) h2 rfl, trivial⟩)
  apply sc
  ·intro a w' vs σ hS hl hs hk
   have f39 : a.tmps[39]?.getD undef = .bool true := svf hk 27
   exact rq (.bool false) (wanted_yes rfl rfl rfl (svv hk 22)) (by simp [execOp, Act.eval, f39, go_sem]) hl hs hS
  apply sc
  ·intro a w' vs σ hS hl hs hk
   have f34 : a.tmps[34]?.getD undef = .bool false := svf hk 22
   have f40 : a.tmps[40]?.getD undef = .bool false := svf hk 28
   exact rp (.bool false) (by simp [execOp, Act.eval, f34, f40, go_sem]) hl hs hS
  apply sc
  ·intro a w' vs σ hS hl hs hk
   have f41 : a.tmps[41]?.getD undef = .bool false := svf hk 29
   exact rp (.bool false) (by simp [execOp, Act.eval, f41, go_sem]) hl hs hS
  apply sc
  ·intro a w' vs σ hS hl hs hk
   have f1 : a.tmps[1]?.getD undef = .pointer (some ⟨p, 0, none⟩) := sof hk
   exact rq (pt p 0) (wanted_yes rfl rfl rfl (svv hk 30)) (by simp [execOp, Act.eval, f1, go_sem]) hl hs hS
  apply sc
  ·intro a w' vs σ hS hl hs hk
   exact ro_call (f := 64) (wanted_yes rfl rfl rfl (svv hk 30)) rfl (by simp only [List.map_toArray, List.map_cons, List.map_nil, Act.eval] <;> rfl) (fun _ _ => by kernel_rfl) ((l16at_any 3 true hS).mono fun e w2 ⟨h1, h2⟩ => ⟨_, h1, sp_same (by kernel_rfl) hl hs h2 rfl, trivial⟩)
  apply sc
  ·intro a w' vs σ hS hl hs hk
   have e43 : a.tmps.getD 43 undef = .pointer (some ⟨p, 0, none⟩) := svv hk 31
   have e44 : a.tmps.getD 44 undef = .agg #[.int .i64 0, .int .i64 3, .bool true] := svv hk 32
   exact ro_call (f := 28) (wanted_yes rfl rfl rfl (svv hk 30)) rfl (by simp only [List.map_toArray, List.map_cons, List.map_nil, Act.eval, e43, e44] <;> rfl) (fun _ _ => by kernel_rfl) ((k16_wraps (j := 3) HT.out hS (k := 1) (sg (hs 1 (by decide))) k16_len3 (by decide +kernel) (by decide +kernel) (by decide +kernel) rfl).mono fun e w2 ⟨h1, h2⟩ => ⟨_, h1, sp_same (by kernel_rfl) hl hs h2 rfl, trivial⟩)
  apply sc
  ·intro a w' vs σ hS hl hs hk
   have f45 : a.tmps[45]?.getD undef = .bool true := svf hk 33
   exact rq (.bool false) (wanted_yes rfl rfl rfl (svv hk 30)) (by simp [execOp, Act.eval, f45, go_sem]) hl hs hS
  apply sc
  ·intro a w' vs σ hS hl hs hk
   have f42 : a.tmps[42]?.getD undef = .bool false := svf hk 30
   have f46 : a.tmps[46]?.getD undef = .bool false := svf hk 34
   exact rp (.bool false) (by simp [execOp, Act.eval, f42, f46, go_sem]) hl hs hS
  apply sc
  ·intro a w' vs σ hS hl hs hk
   have f47 : a.tmps[47]?.getD undef = .bool false := svf hk 35
   exact rp (.bool false) (by simp [execOp, Act.eval, f47, go_sem]) hl hs hS
  apply sc
  ·intro a w' vs σ hS hl hs hk
   have f1 : a.tmps[1]?.getD undef = .pointer (some ⟨p, 0, none⟩) := sof hk
   exact rq (pt p 0) (wanted_yes rfl rfl rfl (svv hk 36)) (by simp [execOp, Act.eval, f1, go_sem]) hl hs hS
  apply sc
  ·intro a w' vs σ hS hl hs hk
   exact ro_call (f := 64) (wanted_yes rfl rfl rfl (svv hk 36)) rfl (by simp only [List.map_toArray, List.map_cons, List.map_nil, Act.eval] <;> rfl) (fun _ _ => by kernel_rfl) ((l16at_any 3 false hS).mono fun e w2 ⟨h1, h2⟩ => ⟨_, h1, sp_same (by kernel_rfl) hl hs h2 rfl, trivial⟩)
  apply sc
  ·intro a w' vs σ hS hl hs hk
   have e49 : a.tmps.getD 49 undef = .pointer (some ⟨p, 0, none⟩) := svv hk 37
   have e50 : a.tmps.getD 50 undef = .agg #[.int .i64 0, .int .i64 3, .bool false] := svv hk 38
   exact ro_call (f := 28) (wanted_yes rfl rfl rfl (svv hk 36)) rfl (by simp only [List.map_toArray, List.map_cons, List.map_nil, Act.eval, e49, e50] <;> rfl) (fun _ _ => by kernel_rfl) ((k16_wraps (j := 3) HT.out hS (k := 1) (sg (hs 1 (by decide))) k16_len3 (by decide +kernel) (by decide +kernel) (by decide +kernel) rfl).mono fun e w2 ⟨h1, h2⟩ => ⟨_, h1, sp_same (by kernel_rfl) hl hs h2 rfl, trivial⟩)
  apply sc
  ·intro a w' vs σ hS hl hs hk
   have f51 : a.tmps[51]?.getD undef = .bool true := svf hk 39
   exact rq (.bool false) (wanted_yes rfl rfl rfl (svv hk 36)) (by simp [execOp, Act.eval, f51, go_sem]) hl hs hS
  apply sc
  ·intro a w' vs σ hS hl hs hk
   have f48 : a.tmps[48]?.getD undef = .bool false := svf hk 36
   have f52 : a.tmps[52]?.getD undef = .bool false := svf hk 40
   exact rp (.bool false) (by simp [execOp, Act.eval, f48, f52, go_sem]) hl hs hS
  apply sc
  ·intro a w' vs σ hS hl hs hk
   have f53 : a.tmps[53]?.getD undef = .bool false := svf hk 41
   exact rp (.bool false) (by simp [execOp, Act.eval, f53, go_sem]) hl hs hS
  apply sc
  ·intro a w' vs σ hS hl hs hk
   have f1 : a.tmps[1]?.getD undef = .pointer (some ⟨p, 0, none⟩) := sof hk
   exact rq (pt p 0) (wanted_yes rfl rfl rfl (svv hk 42)) (by simp [execOp, Act.eval, f1, go_sem]) hl hs hS
  apply sc
  ·intro a w' vs σ hS hl hs hk
   exact ro_call (f := 64) (wanted_yes rfl rfl rfl (svv hk 42)) rfl (by simp only [List.map_toArray, List.map_cons, List.map_nil, Act.eval] <;> rfl) (fun _ _ => by kernel_rfl) ((l16at_any 3 false hS).mono fun e w2 ⟨h1, h2⟩ => ⟨_, h1, sp_same (by kernel_rfl) hl hs h2 rfl, trivial⟩)
  apply sc
  ·intro a w' vs σ hS hl hs hk
   have e55 : a.tmps.getD 55 undef = .pointer (some ⟨p, 0, none⟩) := svv hk 43
   have e56 : a.tmps.getD 56 undef = .agg #[.int .i64 0, .int .i64 3, .bool false] := svv hk 44
   exact ro_call (f := 28) (wanted_yes rfl rfl rfl (svv hk 42)) rfl (by simp only [List.map_toArray, List.map_cons, List.map_nil, Act.eval, e55, e56] <;> rfl) (fun _ _ => by kernel_rfl) ((k16_wraps (j := 3) HT.out hS (k := 1) (sg (hs 1 (by decide))) k16_len3 (by decide +kernel) (by decide +kernel) (by decide +kernel) rfl).mono fun e w2 ⟨h1, h2⟩ => ⟨_, h1, sp_same (by kernel_rfl) hl hs h2 rfl, trivial⟩)
  apply sc
  ·intro a w' vs σ hS hl hs hk
   have f57 : a.tmps[57]?.getD undef = .bool true := svf hk 45
   exact rq (.bool false) (wanted_yes rfl rfl rfl (svv hk 42)) (by simp [execOp, Act.eval, f57, go_sem]) hl hs hS
  apply sc
  ·intro a w' vs σ hS hl hs hk
   have f54 : a.tmps[54]?.getD undef = .bool false := svf hk 42
   have f58 : a.tmps[58]?.getD undef = .bool false := svf hk 46
   exact rp (.bool false) (by simp [execOp, Act.eval, f54, f58, go_sem]) hl hs hS
  exact SSteps.nil
 ·intro vs w' hS hv
  have q0 : vs 0 = _ := hv 0 (by decide)
  have q1 : vs 1 = _ := hv 1 (by decide)
  have q2 : vs 2 = _ := hv 2 (by decide)
  have q3 : vs 3 = _ := hv 3 (by decide)
  have q4 : vs 4 = _ := hv 4 (by decide)
  have q5 : vs 5 = _ := hv 5 (by decide)
  have q6 : vs 6 = _ := hv 6 (by decide)
  have q7 : vs 7 = _ := hv 7 (by decide)
  have q8 : vs 8 = _ := hv 8 (by decide)
  have q9 : vs 9 = _ := hv 9 (by decide)
  have q10 : vs 10 = _ := hv 10 (by decide)
  have q11 : vs 11 = _ := hv 11 (by decide)
  have q12 : vs 12 = _ := hv 12 (by decide)
  have q13 : vs 13 = _ := hv 13 (by decide)
  have q14 : vs 14 = _ := hv 14 (by decide)
  have q15 : vs 15 = _ := hv 15 (by decide)
  have q16 : vs 16 = _ := hv 16 (by decide)
  have q17 : vs 17 = _ := hv 17 (by decide)
  have q18 : vs 18 = _ := hv 18 (by decide)
  have q19 : vs 19 = _ := hv 19 (by decide)
  have q20 : vs 20 = _ := hv 20 (by decide)
  have q21 : vs 21 = _ := hv 21 (by decide)
  have q22 : vs 22 = _ := hv 22 (by decide)
  have q23 : vs 23 = _ := hv 23 (by decide)
  have q24 : vs 24 = _ := hv 24 (by decide)
  have q25 : vs 25 = _ := hv 25 (by decide)
  have q26 : vs 26 = _ := hv 26 (by decide)
  have q27 : vs 27 = _ := hv 27 (by decide)
  have q28 : vs 28 = _ := hv 28 (by decide)
  have q29 : vs 29 = _ := hv 29 (by decide)
  have q30 : vs 30 = _ := hv 30 (by decide)
  have q31 : vs 31 = _ := hv 31 (by decide)
  have q32 : vs 32 = _ := hv 32 (by decide)
  have q33 : vs 33 = _ := hv 33 (by decide)
  have q34 : vs 34 = _ := hv 34 (by decide)
  have q35 : vs 35 = _ := hv 35 (by decide)
  have q36 : vs 36 = _ := hv 36 (by decide)
  have q37 : vs 37 = _ := hv 37 (by decide)
  have q38 : vs 38 = _ := hv 38 (by decide)
  have q39 : vs 39 = _ := hv 39 (by decide)
  have q40 : vs 40 = _ := hv 40 (by decide)
  have q41 : vs 41 = _ := hv 41 (by decide)
  have q42 : vs 42 = _ := hv 42 (by decide)
  have q43 : vs 43 = _ := hv 43 (by decide)
  have q44 : vs 44 = _ := hv 44 (by decide)
  have q45 : vs 45 = _ := hv 45 (by decide)
  have q46 : vs 46 = _ := hv 46 (by decide)
  have q47 : vs 47 = _ := hv 47 (by decide)
  have S2 := Lib.hid hS
  simp only [putL, Act.put, Nat.zero_add, Nat.reduceAdd, List.setIfInBounds_toArray, List.set_cons_succ, List.set_cons_zero, q0, q1, q2, q3, q4, q5, q6, q7, q8, q9, q10, q11, q12, q13, q14, q15, q16, q17, q18, q19, q20, q21, q22, q23, q24, q25, q26, q27, q28, q29, q30, q31, q32, q33, q34, q35, q36, q37, q38, q39, q40, q41, q42, q43, q44, q45, q46, q47]
  clear hS hv q0 q1 q2 q3 q4 q5 q6 q7 q8 q9 q10 q11 q12 q13 q14 q15 q16 q17 q18 q19 q20 q21 q22 q23 q24 q25 q26 q27 q28 q29 q30 q31 q32 q33 q34 q35 q36 q37 q38 q39 q40 q41 q42 q43 q44 q45 q46 q47
  have T2 := S2
  clear S2 T1
  go_upto_region 5 with (fail)
  refine wp_region_stage (w0 := w) (os := []) (by kernel_rfl) (by kernel_rfl) (by kernel_rfl) [(1, 11, [], fun vs => .grid p 58 ((4 : Nat) : Int) k16_4), (1, 17, [], fun vs => .grid p 58 ((4 : Nat) : Int) k16_5)] [[], [], [0], [], [1], [], [], [], [], [0], [], [1], [], [], [], [], [], [1], [], [], [], [], [], [1], [], [], [], [], [], [1], [], []] [.box b3 54 (pv pen0), .grid p 58 ((4 : Nat) : Int) k16_3] (fun opn u => match opn with | 0 => u = .pointer (some ⟨p, 0, none⟩) | 1 => u = .agg #[.int .i64 0, .int .i64 3, .bool true] | 2 => u = .agg (pv pen0) | 3 => u = .agg #[.int .i64 0, .int .i64 0, .bool false] | 4 => u = .bool true | 5 => u = .bool false | 6 => u = .bool false | 7 => u = .pointer (some ⟨p, 0, none⟩) | 8 => u = .agg #[.int .i64 0, .int .i64 3, .bool true] | 9 => u = .agg (pv pen0) | 10 => u = .agg #[.int .i64 0, .int .i64 3, .bool false] | 11 => u = .bool true | 12 => u = .bool false | 13 => u = .bool false | 14 => u = .bool false | 15 => u = .pointer (some ⟨p, 0, none⟩) | 16 => u = .agg #[.int .i64 0, .int .i64 3, .bool false] | 17 => u = .bool true | 18 => u = .bool false | 19 => u = .bool false | 20 => u = .bool false | 21 => u = .pointer (some ⟨p, 0, none⟩) | 22 => u = .agg #[.int .i64 0, .int .i64 0, .bool false] | 23 => u = .bool true | 24 => u = .bool false | 25 => u = .bool false | 26 => u = .bool false | 27 => u = .pointer (some ⟨p, 0, none⟩) | 28 => u = .agg #[.int .i64 0, .int .i64 3, .bool false] | 29 => u = .bool true | 30 => u = .bool false | 31 => u = .bool false | _ => True) (fun vs => [.box b3 54 (pv pen0), .grid p 58 ((4 : Nat) : Int) k16_5]) (by kernel_rfl) (fun vs => by rfl) T2.out ?_ ?_
  ·apply sc
   ·intro a w' vs σ hS hl hs hk
    have f1 : a.tmps[1]?.getD undef = .pointer (some ⟨p, 0, none⟩) := sof hk
    exact rp (pt p 0) (by simp [execOp, Act.eval, f1, go_sem]) hl hs hS
   apply sc
   ·intro a w' vs σ hS hl hs hk
    exact ro_call (f := 64) (wanted_none rfl) rfl (by simp only [List.map_toArray, List.map_cons, List.map_nil, Act.eval] <;> rfl) (fun _ _ => by kernel_rfl) ((l16at_any 3 true hS).mono fun e w2 ⟨h1, h2⟩ => ⟨_, h1, sp_same (by kernel_rfl) hl hs h2 rfl, trivial⟩)
   apply sc
   ·intro a w' vs σ hS hl hs hk
    have f3 : a.tmps[3]?.getD undef = .pointer (some ⟨b3, 0, none⟩) := sof hk
    have hx := (hS.box (sg (hs 0 (by decide)))).penAt
    exact rp (.agg (pv pen0)) (by simp [execOp, Act.eval, f3, go_sem, hx]) hl hs hS
   apply sc
   ·intro a w' vs σ hS hl hs hk
    exact rp (.agg #[.int .i64 0, .int .i64 0, .bool false]) (by simp [execOp, Act.eval, go_sem]) hl hs hS
   apply sc
   ·intro a w' vs σ hS hl hs hk
    have e60 : a.tmps.getD 60 undef = .pointer (some ⟨p, 0, none⟩) := svv hk 0
    have e61 : a.tmps.getD 61 undef = .agg #[.int .i64 0, .int .i64 3, .bool true] := svv hk 1
    have e62 : a.tmps.getD 62 undef = .agg (pv pen0) := svv hk 2
    have e63 : a.tmps.getD 63 undef = .agg #[.int .i64 0, .int .i64 0, .bool false] := svv hk 3
    exact ro_call (f := 27) (wanted_none rfl) rfl (by simp only [List.map_toArray, List.map_cons, List.map_nil, Act.eval, e60, e61, e62, e63] <;> rfl) (fun _ _ => by kernel_rfl) ((k16_wrap (j := 3) HT.out hS (k := 1) (sg (hs 1 (by decide))) k16_len3 (by decide +kernel) (by decide +kernel) (by decide +kernel) rfl).mono fun e w2 ⟨h1, h2⟩ => ⟨_, h1, sp_same (by kernel_rfl) hl hs h2 rfl, trivial⟩)
   apply sc
   ·intro a w' vs σ hS hl hs hk
    have f64 : a.tmps[64]?.getD undef = .bool true := svf hk 4
    exact rp (.bool false) (by simp [execOp, Act.eval, f64, go_sem]) hl hs hS
   apply sc
   ·intro a w' vs σ hS hl hs hk
    have f65 : a.tmps[65]?.getD undef = .bool false := svf hk 5
    exact rp (.bool false) (by simp [execOp, Act.eval, f65, go_sem]) hl hs hS
   apply sc
   ·intro a w' vs σ hS hl hs hk
    have f1 : a.tmps[1]?.getD undef = .pointer (some ⟨p, 0, none⟩) := sof hk
    exact rq (pt p 0) (wanted_yes rfl rfl rfl (svv hk 6)) (by simp [execOp, Act.eval, f1, go_sem]) hl hs hS
   apply sc
   ·intro a w' vs σ hS hl hs hk
    exact ro_call (f := 64) (wanted_yes rfl rfl rfl (svv hk 6)) rfl (by simp only [List.map_toArray, List.map_cons, List.map_nil, Act.eval] <;> rfl) (fun _ _ => by kernel_rfl) ((l16at_any 3 true hS).mono fun e w2 ⟨h1, h2⟩ => ⟨_, h1, sp_same (by kernel_rfl) hl hs h2 rfl, trivial⟩)
   apply sc
   ·intro a w' vs σ hS hl hs hk
    have f3 : a.tmps[3]?.getD undef = .pointer (some ⟨b3, 0, none⟩) := sof hk
    have hx := (hS.box (sg (hs 0 (by decide)))).penAt
    exact rq (.agg (pv pen0)) (wanted_yes rfl rfl rfl (svv hk 6)) (by simp [execOp, Act.eval, f3, go_sem, hx]) hl hs hS
   apply sc
   ·intro a w' vs σ hS hl hs hk
    exact ro_call (f := 64) (wanted_yes rfl rfl rfl (svv hk 6)) rfl (by simp only [List.map_toArray, List.map_cons, List.map_nil, Act.eval] <;> rfl) (fun _ _ => by kernel_rfl) ((l16at_any 3 false hS).mono fun e w2 ⟨h1, h2⟩ => ⟨_, h1, sp_same (by kernel_rfl) hl hs h2 rfl, trivial⟩)
   apply sc
   ·intro a w' vs σ hS hl hs hk
    have e67 : a.tmps.getD 67 undef = .pointer (some ⟨p, 0, none⟩) := svv hk 7
    have e68 : a.tmps.getD 68 undef = .agg #[.int .i64 0, .int .i64 3, .bool true] := svv hk 8
    have e69 : a.tmps.getD 69 undef = .agg (pv pen0) := svv hk 9
    have e70 : a.tmps.getD 70 undef = .agg #[.int .i64 0, .int .i64 3, .bool false] := svv hk 10
    exact ro_call (f := 27) (wanted_yes rfl rfl rfl (svv hk 6)) rfl (by simp only [List.map_toArray, List.map_cons, List.map_nil, Act.eval, e67, e68, e69, e70] <;> rfl) (fun _ _ => by kernel_rfl) ((k16_print (j := 3) HT.out hS (k := 1) (sg (hs 1 (by decide))) k16_len3 k16_rect3 (by decide +kernel) (by decide +kernel) (by decide +kernel) (by decide +kernel) (by decide +kernel) rfl rfl rfl).mono fun e w2 ⟨h1, h2⟩ => ⟨_, h1, sp_set 1 (.grid p 58 ((4 : Nat) : Int) k16_4) (by kernel_rfl) (by simp) (by decide) hl hs (by rfl) h2 rfl, trivial⟩)
   apply sc
   ·intro a w' vs σ hS hl hs hk
    have f71 : a.tmps[71]?.getD undef = .bool true := svf hk 11
    exact rq (.bool false) (wanted_yes rfl rfl rfl (svv hk 6)) (by simp [execOp, Act.eval, f71, go_sem]) hl hs hS
   apply sc
   ·intro a w' vs σ hS hl hs hk
    have f66 : a.tmps[66]?.getD undef = .bool false := svf hk 6
    have f72 : a.tmps[72]?.getD undef = .bool false := svf hk 12
    exact rp (.bool false) (by simp [execOp, Act.eval, f66, f72, go_sem]) hl hs hS
   apply sc
   ·intro a w' vs σ hS hl hs hk
    have f73 : a.tmps[73]?.getD undef = .bool false := svf hk 13
    exact rp (.bool false) (by simp [execOp, Act.eval, f73, go_sem]) hl hs hS
   apply sc
   ·intro a w' vs σ hS hl hs hk
    have f1 : a.tmps[1]?.getD undef = .pointer (some ⟨p, 0, none⟩) := sof hk
    exact rq (pt p 0) (wanted_yes rfl rfl rfl (svv hk 14)) (by simp [execOp, Act.eval, f1, go_sem]) hl hs hS
   apply sc
   ·intro a w' vs σ hS hl hs hk
    exact ro_call (f := 64) (wanted_yes rfl rfl rfl (svv hk 14)) rfl (by simp only [List.map_toArray, List.map_cons, List.map_nil, Act.eval] <;> rfl) (fun _ _ => by kernel_rfl) ((l16at_any 3 false hS).mono fun e w2 ⟨h1, h2⟩ => ⟨_, h1, sp_same (by kernel_rfl) hl hs h2 rfl, trivial⟩)
   apply sc
   ·intro a w' vs σ hS hl hs hk
    have e75 : a.tmps.getD 75 undef = .pointer (some ⟨p, 0, none⟩) := svv hk 15
    have e76 : a.tmps.getD 76 undef = .agg #[.int .i64 0, .int .i64 3, .bool false] := svv hk 16
    exact ro_call (f := 29) (wanted_yes rfl rfl rfl (svv hk 14)) rfl (by simp only [List.map_toArray, List.map_cons, List.map_nil, Act.eval, e75, e76] <;> rfl) (fun _ _ => by kernel_rfl) ((k16_mark (c0 := 2) HT.out hS (k := 1) (sg (hs 1 (by decide))) k16_len4 k16_rect4 k16_V4 (by decide +kernel) (by decide +kernel) (by decide +kernel) rfl (by decide +kernel) rfl rfl).mono fun e w2 ⟨h1, h2⟩ => ⟨_, h1, sp_set 1 (.grid p 58 ((4 : Nat) : Int) k16_5) (by kernel_rfl) (by simp) (by decide) hl hs (by rfl) h2 rfl, trivial⟩)
   apply sc
   ·intro a w' vs σ hS hl hs hk
    have f77 : a.tmps[77]?.getD undef = .bool true := svf hk 17
    exact rq (.bool false) (wanted_yes rfl rfl rfl (svv hk 14)) (by simp [execOp, Act.eval, f77, go_sem]) hl hs hS
   apply sc
   ·intro a w' vs σ hS hl hs hk
    have f74 : a.tmps[74]?.getD undef = .bool false := svf hk 14
    have f78 : a.tmps[78]?.getD undef = .bool false := svf hk 18
    exact rp (.bool false) (by simp [execOp, Act.eval, f74, f78, go_sem]) hl hs hS
   apply sc
   ·intro a w' vs σ hS hl hs hk
    have f79 : a.tmps[79]?.getD undef = .bool false := svf hk 19
    exact rp (.bool false) (by simp [execOp, Act.eval, f79, go_sem]) hl hs hS
   apply sc
   ·intro a w' vs σ hS hl hs hk
    have f1 : a.tmps[1]?.getD undef = .pointer (some ⟨p, 0, none⟩) := sof hk
    exact rq (pt p 0) (wanted_yes rfl rfl rfl (svv hk 20)) (by simp [execOp, Act.eval, f1, go_sem]) hl hs hS
   apply sc
   ·intro a w' vs σ hS hl hs hk
    exact ro_call (f := 64) (wanted_yes rfl rfl rfl (svv hk 20)) rfl (by simp only [List.map_toArray, List.map_cons, List.map_nil, Act.eval] <;> rfl) (fun _ _ => by kernel_rfl) ((l16at_any 0 false hS).mono fun e w2 ⟨h1, h2⟩ => ⟨_, h1, sp_same (by kernel_rfl) hl hs h2 rfl, trivial⟩)
   apply sc
   ·intro a w' vs σ hS hl hs hk
    have e81 : a.tmps.getD 81 undef = .pointer (some ⟨p, 0, none⟩) := svv hk 21
    have e82 : a.tmps.getD 82 undef = .agg #[.int .i64 0, .int .i64 0, .bool false] := svv hk 22
    exact ro_call (f := 29) (wanted_yes rfl rfl rfl (svv hk 20)) rfl (by simp only [List.map_toArray, List.map_cons, List.map_nil, Act.eval, e81, e82] <;> rfl) (fun _ _ => by kernel_rfl) ((marks_front (row := 0) HT.out hS (k := 1) (sg (hs 1 (by decide))) (by decide) (by decide) (by rw [k16_len5]; decide) (by rw [k16_len5]; decide +kernel) (by decide +kernel)).mono fun e w2 ⟨h1, h2⟩ => ⟨_, h1, sp_same (by kernel_rfl) hl hs h2 rfl, trivial⟩)
   apply sc
   ·intro a w' vs σ hS hl hs hk
    have f83 : a.tmps[83]?.getD undef = .bool true := svf hk 23
    exact rq (.bool false) (wanted_yes rfl rfl rfl (svv hk 20)) (by simp [execOp, Act.eval, f83, go_sem]) hl hs hS
   apply sc
   ·intro a w' vs σ hS hl hs hk
    have f80 : a.tmps[80]?.getD undef = .bool false := svf hk 20
    have f84 : a.tmps[84]?.getD undef = .bool false := svf hk 24
    exact rp (.bool false) (by simp [execOp, Act.eval, f80, f84, go_sem]) hl hs hS
   apply sc
   ·intro a w' vs σ hS hl hs hk
    have f85 : a.tmps[85]?.getD undef = .bool false := svf hk 25
    exact rp (.bool false) (by simp [execOp, Act.eval, f85, go_sem]) hl hs hS
   apply sc
   ·intro a w' vs σ hS hl hs hk
    have f1 : a.tmps[1]?.getD undef = .pointer (some ⟨p, 0, none⟩) := sof hk
    exact rq (pt p 0) (wanted_yes rfl rfl rfl (svv hk 26)) (by simp [execOp, Act.eval, f1, go_sem]) hl hs hS
   apply sc
   ·intro a w' vs σ hS hl hs hk
    exact ro_call (f := 64) (wanted_yes rfl rfl rfl (svv hk 26)) rfl (by simp only [List.map_toArray, List.map_cons, List.map_nil, Act.eval] <;> rfl) (fun _ _ => by kernel_rfl) ((l16at_any 3 false hS).mono fun e w2 ⟨h1, h2⟩ => ⟨_, h1, sp_same (by kernel_rfl) hl hs h2 rfl, trivial⟩)
   apply sc
   ·intro a w' vs σ hS hl hs hk
    have e87 : a.tmps.getD 87 undef = .pointer (some ⟨p, 0, none⟩) := svv hk 27
    have e88 : a.tmps.getD 88 undef = .agg #[.int .i64 0, .int .i64 3, .bool false] := svv hk 28
    exact ro_call (f := 29) (wanted_yes rfl rfl rfl (svv hk 26)) rfl (by simp only [List.map_toArray, List.map_cons, List.map_nil, Act.eval, e87, e88] <;> rfl) (fun _ _ => by kernel_rfl) ((marks_bad (row := 0) (col := 3) HT.out hS (k := 1) (sg (hs 1 (by decide))) (by decide) (by decide) (by rw [k16_len5]; decide) (by rw [k16_len5]; decide +kernel) (by decide +kernel)).mono fun e w2 ⟨h1, h2⟩ => ⟨_, h1, sp_same (by kernel_rfl) hl hs h2 rfl, trivial⟩)
   apply sc
   ·intro a w' vs σ hS hl hs hk
    have f89 : a.tmps[89]?.getD undef = .bool true := svf hk 29
    exact rq (.bool false) (wanted_yes rfl rfl rfl (svv hk 26)) (by simp [execOp, Act.eval, f89, go_sem]) hl hs hS
   apply sc
   ·intro a w' vs σ hS hl hs hk
    have f86 : a.tmps[86]?.getD undef = .bool false := svf hk 26
    have f90 : a.tmps[90]?.getD undef = .bool false := svf hk 30
    exact rp (.bool false) (by simp [execOp, Act.eval, f86, f90, go_sem]) hl hs hS
   exact SSteps.nil
  ·intro vs w' hS hv
   have q0 : vs 0 = _ := hv 0 (by decide)
   have q1 : vs 1 = _ := hv 1 (by decide)
   have q2 : vs 2 = _ := hv 2 (by decide)
   have q3 : vs 3 = _ := hv 3 (by decide)
   have q4 : vs 4 = _ := hv 4 (by decide)
   have q5 : vs 5 = _ := hv 5 (by decide)
   have q6 : vs 6 = _ := hv 6 (by decide)
   have q7 : vs 7 = _ := hv 7 (by decide)
   have q8 : vs 8 = _ := hv 8 (by decide)
   have q9 : vs 9 = _ := hv 9 (by decide)
   have q10 : vs 10 = _ := hv 10 (by decide)
   have q11 : vs 11 = _ := hv 11 (by decide)
   have q12 : vs 12 = _ := hv 12 (by decide)
   have q13 : vs 13 = _ := hv 13 (by decide)
   have q14 : vs 14 = _ := hv 14 (by decide)
   have q15 : vs 15 = _ := hv 15 (by decide)
   have q16 : vs 16 = _ := hv 16 (by decide)
   have q17 : vs 17 = _ := hv 17 (by decide)
   have q18 : vs 18 = _ := hv 18 (by decide)
   have q19 : vs 19 = _ := hv 19 (by decide)
   have q20 : vs 20 = _ := hv 20 (by decide)
   have q21 : vs 21 = _ := hv 21 (by decide)
   have q22 : vs 22 = _ := hv 22 (by decide)
   have q23 : vs 23 = _ := hv 23 (by decide)
   have q24 : vs 24 = _ := hv 24 (by decide)
   have q25 : vs 25 = _ := hv 25 (by decide)
   have q26 : vs 26 = _ := hv 26 (by decide)
   have q27 : vs 27 = _ := hv 27 (by decide)
   have q28 : vs 28 = _ := hv 28 (by decide)
   have q29 : vs 29 = _ := hv 29 (by decide)
   have q30 : vs 30 = _ := hv 30 (by decide)
   have q31 : vs 31 = _ := hv 31 (by decide)
   have S2 := Lib.hid hS
   simp only [putL, Act.put, Nat.zero_add, Nat.reduceAdd, List.setIfInBounds_toArray, List.set_cons_succ, List.set_cons_zero, q0, q1, q2, q3, q4, q5, q6, q7, q8, q9, q10, q11, q12, q13, q14, q15, q16, q17, q18, q19, q20, q21, q22, q23, q24, q25, q26, q27, q28, q29, q30, q31]
   clear hS hv q0 q1 q2 q3 q4 q5 q6 q7 q8 q9 q10 q11 q12 q13 q14 q15 q16 q17 q18 q19 q20 q21 q22 q23 q24 q25 q26 q27 q28 q29 q30 q31
   have T3 := S2
   clear S2 T2
   go_wp2_with fail
   refine (show Calls Tryd.prog 48 #[.pointer (some ⟨p, 0, none⟩), .int .i64 0, .int .i64 3] _ _ from (Cell_yes (i := 0) (j := 3) (l := k16_5[0]'(by rw [k16_len5]; decide)) (x := k16_c) T3.out (k := 1) rfl (by decide) (by decide) (by simp) k16_at3)).mono ?_
   rintro e w3 ⟨rfl, hS⟩
   have T35 := Lib.hid hS
   clear hS T3
   go_upto_region 8 with (fail)
   refine at_objsC (T35.out.alloc1 (c1 := cv k16_c) (t1 := 71)) (fun W3 hW3 => ?_)
   generalize w3.heap.size = b4 at hW3 ⊢
   have T4 := Lib.hid (show Objs w W3 [.box b3 54 (pv pen0), .grid p 58 ((4 : Nat) : Int) k16_5, .box b4 71 (cv k16_c)] from (Objs.pick (σ := [_, _, _]) (os := []) hW3 [some 1, some 2, some 0] (by decide) rfl))
   clear hW3 T35
   refine wp_region_stage (w0 := w) (os := []) (by kernel_rfl) (by kernel_rfl) (by kernel_rfl) [(1, 12, [], fun vs => .grid p 58 ((4 : Nat) : Int) k16_6)] [[2], [], [], [], [], [], [], [], [], [], [0], [], [1], [], []] [.box b3 54 (pv pen0), .grid p 58 ((4 : Nat) : Int) k16_5, .box b4 71 (cv k16_c)] (fun opn u => match opn with | 0 => u = .agg (cv k16_c) | 1 => u = .agg (cv k16_c) | 2 => u = .bool false | 3 => u = .bool false | 4 => u = .int .i64 0 | 5 => u = .bool false | 6 => u = .bool false | 7 => u = .bool false | 8 => u = .pointer (some ⟨p, 0, none⟩) | 9 => u = .agg #[.int .i64 0, .int .i64 0, .bool false] | 10 => u = .agg (pv pen0) | 11 => u = .agg #[.int .i64 0, .int .i64 1, .bool false] | 12 => u = .bool true | 13 => u = .bool false | 14 => u = .bool false | _ => True) (fun vs => [.box b3 54 (pv pen0), .grid p 58 ((4 : Nat) : Int) k16_6, .box b4 71 (cv k16_c)]) (by kernel_rfl) (fun vs => by rfl) T4.out ?_ ?_
   ·apply sc
    ·intro a w' vs σ hS hl hs hk
     have f4 : a.tmps[4]?.getD undef = .pointer (some ⟨b4, 0, none⟩) := sof hk
     have hx := (hS.box (sg (hs 2 (by decide)))).cellAt
     exact rp (.agg (cv k16_c)) (by simp [execOp, Act.eval, f4, go_sem, hx]) hl hs hS
    apply sc
    ·intro a w' vs σ hS hl hs hk
     exact rp (.agg (cv k16_c)) (by simp [execOp, Act.eval, go_sem, cv_ne, k16_c]) hl hs hS
    apply sc
    ·intro a w' vs σ hS hl hs hk
     have f97 : a.tmps[97]?.getD undef = .agg (cv k16_c) := svf hk 0
     have f98 : a.tmps[98]?.getD undef = .agg (cv k16_c) := svf hk 1
     exact rp (.bool false) (by simp [execOp, Act.eval, f97, f98, go_sem]) hl hs hS
    apply sc
    ·intro a w' vs σ hS hl hs hk
     have f99 : a.tmps[99]?.getD undef = .bool false := svf hk 2
     exact rp (.bool false) (by simp [execOp, Act.eval, f99, go_sem]) hl hs hS
    apply sc
    ·intro a w' vs σ hS hl hs hk
     have f5 : a.tmps[5]?.getD undef = .int .i64 0 := sof hk
     exact rq (.int .i64 0) (wanted_yes rfl rfl rfl (svv hk 3)) (by simp [execOp, Act.eval, f5, go_sem]) hl hs hS
    apply sc
    ·intro a w' vs σ hS hl hs hk
     have f101 : a.tmps[101]?.getD undef = .int .i64 0 := svf hk 4
     exact rq (.bool false) (wanted_yes rfl rfl rfl (svv hk 3)) (by simp [execOp, Act.eval, f101, go_sem]) hl hs hS
    apply sc
    ·intro a w' vs σ hS hl hs hk
     have f100 : a.tmps[100]?.getD undef = .bool false := svf hk 3
     have f102 : a.tmps[102]?.getD undef = .bool false := svf hk 5
     exact rp (.bool false) (by simp [execOp, Act.eval, f100, f102, go_sem]) hl hs hS
    apply sc
    ·intro a w' vs σ hS hl hs hk
     have f103 : a.tmps[103]?.getD undef = .bool false := svf hk 6
     exact rp (.bool false) (by simp [execOp, Act.eval, f103, go_sem]) hl hs hS
    apply sc
    ·intro a w' vs σ hS hl hs hk
     have f1 : a.tmps[1]?.getD undef = .pointer (some ⟨p, 0, none⟩) := sof hk
     exact rq (pt p 0) (wanted_yes rfl rfl rfl (svv hk 7)) (by simp [execOp, Act.eval, f1, go_sem]) hl hs hS
    apply sc
    ·intro a w' vs σ hS hl hs hk
     exact ro_call (f := 64) (wanted_yes rfl rfl rfl (svv hk 7)) rfl (by simp only [List.map_toArray, List.map_cons, List.map_nil, Act.eval] <;> rfl) (fun _ _ => by kernel_rfl) ((l16at_any 0 false hS).mono fun e w2 ⟨h1, h2⟩ => ⟨_, h1, sp_same (by kernel_rfl) hl hs h2 rfl, trivial⟩)
    apply sc
    ·intro a w' vs σ hS hl hs hk
     have f3 : a.tmps[3]?.getD undef = .pointer (some ⟨b3, 0, none⟩) := sof hk
     have hx := (hS.box (sg (hs 0 (by decide)))).penAt
     exact rq (.agg (pv pen0)) (wanted_yes rfl rfl rfl (svv hk 7)) (by simp [execOp, Act.eval, f3, go_sem, hx]) hl hs hS
    apply sc
    ·intro a w' vs σ hS hl hs hk
     exact ro_call (f := 64) (wanted_yes rfl rfl rfl (svv hk 7)) rfl (by simp only [List.map_toArray, List.map_cons, List.map_nil, Act.eval] <;> rfl) (fun _ _ => by kernel_rfl) ((l16at_any 1 false hS).mono fun e w2 ⟨h1, h2⟩ => ⟨_, h1, sp_same (by kernel_rfl) hl hs h2 rfl, trivial⟩)
    apply sc
    ·intro a w' vs σ hS hl hs hk
     have e105 : a.tmps.getD 105 undef = .pointer (some ⟨p, 0, none⟩) := svv hk 8
     have e106 : a.tmps.getD 106 undef = .agg #[.int .i64 0, .int .i64 0, .bool false] := svv hk 9
     have e107 : a.tmps.getD 107 undef = .agg (pv pen0) := svv hk 10
     have e108 : a.tmps.getD 108 undef = .agg #[.int .i64 0, .int .i64 1, .bool false] := svv hk 11
     exact ro_call (f := 27) (wanted_yes rfl rfl rfl (svv hk 7)) rfl (by simp only [List.map_toArray, List.map_cons, List.map_nil, Act.eval, e105, e106, e107, e108] <;> rfl) (fun _ _ => by kernel_rfl) ((k16_print (j := 0) HT.out hS (k := 1) (sg (hs 1 (by decide))) k16_len5 k16_rect5 (by decide +kernel) (by decide +kernel) (by decide +kernel) (by decide +kernel) (by decide +kernel) rfl rfl rfl).mono fun e w2 ⟨h1, h2⟩ => ⟨_, h1, sp_set 1 (.grid p 58 ((4 : Nat) : Int) k16_6) (by kernel_rfl) (by simp) (by decide) hl hs (by rfl) h2 rfl, trivial⟩)
    apply sc
    ·intro a w' vs σ hS hl hs hk
     have f109 : a.tmps[109]?.getD undef = .bool true := svf hk 12
     exact rq (.bool false) (wanted_yes rfl rfl rfl (svv hk 7)) (by simp [execOp, Act.eval, f109, go_sem]) hl hs hS
    apply sc
    ·intro a w' vs σ hS hl hs hk
     have f104 : a.tmps[104]?.getD undef = .bool false := svf hk 7
     have f110 : a.tmps[110]?.getD undef = .bool false := svf hk 13
     exact rp (.bool false) (by simp [execOp, Act.eval, f104, f110, go_sem]) hl hs hS
    exact SSteps.nil
   ·intro vs w' hS hv
    have q0 : vs 0 = _ := hv 0 (by decide)
    have q1 : vs 1 = _ := hv 1 (by decide)
    have q2 : vs 2 = _ := hv 2 (by decide)
    have q3 : vs 3 = _ := hv 3 (by decide)
    have q4 : vs 4 = _ := hv 4 (by decide)
    have q5 : vs 5 = _ := hv 5 (by decide)
    have q6 : vs 6 = _ := hv 6 (by decide)
    have q7 : vs 7 = _ := hv 7 (by decide)
    have q8 : vs 8 = _ := hv 8 (by decide)
    have q9 : vs 9 = _ := hv 9 (by decide)
    have q10 : vs 10 = _ := hv 10 (by decide)
    have q11 : vs 11 = _ := hv 11 (by decide)
    have q12 : vs 12 = _ := hv 12 (by decide)
    have q13 : vs 13 = _ := hv 13 (by decide)
    have q14 : vs 14 = _ := hv 14 (by decide)
    have S2 := Lib.hid hS
    simp only [putL, Act.put, Nat.zero_add, Nat.reduceAdd, List.setIfInBounds_toArray, List.set_cons_succ, List.set_cons_zero, q0, q1, q2, q3, q4, q5, q6, q7, q8, q9, q10, q11, q12, q13, q14]
    clear hS hv q0 q1 q2 q3 q4 q5 q6 q7 q8 q9 q10 q11 q12 q13 q14
    have T5 := S2
    clear S2 T4
    go_wp2_with fail
    refine (show Calls Tryd.prog 49 #[.pointer (some ⟨p, 0, none⟩), .int .i64 0] _ _ from (Line_yes (i := 0) T5.out (k := 1) rfl (by decide) k16_row (by decide))).mono ?_
    rintro e w4 ⟨v, rfl, hS⟩
    obtain ⟨A, c6, rfl, -⟩ := hS.cellsRd (k := 0) rfl
    obtain ⟨gl, rfl, -, -, -, -⟩ := (hS.own (k := 0) rfl).head (by decide)
    have hq0 := cells_facts hS (k := 0) rfl (i := 0) (c := k16c 122) rfl
    have hq1 := cells_facts hS (k := 0) rfl (i := 1) (c := k16c 97) rfl
    have hq2 := (cells_facts hS (k := 0) rfl (i := 2) (c := ⟨20013, 769, 0, 0, 2, pen0⟩) rfl).2.2.1
    have hq3 := (cells_facts hS (k := 0) rfl (i := 3) (c := cell0) rfl).2.2.1
    have hr0 := rune_of hq0.2.2.1
    have hr1 := rune_of hq1.2.2.1
    have hz := hq0.2.2.2.2
    clear hq0 hq1
    simp only [Nat.zero_mul, Nat.one_mul, Nat.reduceMul] at hr0 hr1 hq2 hq3
    have T6 := Lib.hid hS
    clear hS T5
    go_wp2_with fail
    go_ret
    exact ⟨rfl, T6.out.alloc1.base⟩
end Go.Proofs.YtppijfjigcoifaaDoor

namespace Go.Proofs.YtppijfjigcoifaaDoor
open Go.RowKit

section
variable {w0 w : World} {os : List Ob} {L : List Ln} {v b : Value}
end
end Go.Proofs.YtppijfjigcoifaaDoor

namespace Go.Proofs.YtppijfjigcoifaaDoor
open Go.RowKit

section
variable {w0 w : World} {os : List Ob} {p cols : Nat} {L : List Ln}
end
end Go.Proofs.YtppijfjigcoifaaDoor

namespace Go.Proofs.YtppijfjigcoifaaDoor
open Go.RowKit

section
variable {w0 w : World} {os : List Ob} {p x cols : Nat} {L : List Ln}
end
end Go.Proofs.YtppijfjigcoifaaDoor

namespace Go.Proofs.YtppijfjigcoifaaDoor
open Go.RowKit

section
variable {w0 w : World} {os : List Ob} {p x cols : Nat} {L : List Ln}
end
end Go.Proofs.YtppijfjigcoifaaDoor

namespace Go.Proofs.YtppijfjigcoifaaDoor
open Go.RowKit

section
variable {w0 w : World} {os : List Ob} {p x cols : Nat} {L : List Ln}
end
end Go.Proofs.YtppijfjigcoifaaDoor

namespace Go.Proofs.YtppijfjigcoifaaDoor
open Go.RowKit

section
variable {w0 w : World} {os : List Ob} {p x cols : Nat} {L : List Ln}
end
end Go.Proofs.YtppijfjigcoifaaDoor

namespace Go.Proofs.YtppijfjigcoifaaDoor
open Go.RowKit

section
variable {w0 w : World} {os : List Ob} {p x cols : Nat} {L : List Ln}
end
end Go.Proofs.YtppijfjigcoifaaDoor

namespace Go.Proofs.YtppijfjigcoifaaDoor
open Go.RowKit

section
variable {w0 w : World} {os : List Ob} {p x cols : Nat} {L : List Ln}
end
end Go.Proofs.YtppijfjigcoifaaDoor

namespace Go.Proofs.YtppijfjigcoifaaDoor
open Go.RowKit

theorem rectP14 (rows cols : Nat) (p : Pen) : Rect cols (List.replicate rows (List.replicate cols (blank p), false)) := fun l hl => by rw [(List.mem_replicate.1 hl).2]; simp
def Kept14 (s rr : Nat) (L : List Ln) : Prop := Rect s L ∧ L.length = rr ∧ AllV L
theorem kept14_new (s rr : Nat) : Kept14 s rr (List.replicate rr (List.replicate s (blank pen0), false)) := ⟨rectP14 rr s pen0, by simp, allV_new rr s (by decide +kernel)⟩
end Go.Proofs.YtppijfjigcoifaaDoor

namespace Go.Proofs.YtppijfjigcoifaaDoor
open Go.RowKit

end Go.Proofs.YtppijfjigcoifaaDoor

namespace Go.Proofs.YtppijfjigcoifaaDoor
open Go.RowKit

theorem Kept14.put {s rr i j : Nat} {L : List Ln} {x : Cell} (h : Kept14 s rr L) (hx : x.ok = true) (hw : x.width = 1 ∨ x.width = 2) (hf : (j : Int) + x.width ≤ s) : Kept14 s rr (rowMod i (putC j x) L) :=
 ⟨h.1.rowMod i (fun cs hcs => by rw [putC_length]; exact hcs), (rowMod_length _ _ _).trans h.2.1, h.2.2.rowMod i (fun l hl => (h.2.2 l hl).put hx hw (by rw [h.1 l hl]; exact hf))⟩
end Go.Proofs.YtppijfjigcoifaaDoor

namespace Go.Proofs.YtppijfjigcoifaaDoor
open Go.RowKit

theorem Objs.nests {w0 w w' : World} {os zs : List Ob} (h : Objs w0 w os) (h2 : Objs w w' zs) : Objs w0 w' (zs ++ os) := by
 obtain ⟨h1, F, a1, a2, a3, a4⟩ := h
 obtain ⟨g1, G, b1, b2, b3, b4⟩ := h2
 have hlt : ∀ i b, F i b → b < w.heap.size := fun i b hF => by
  rcases Nat.lt_or_ge i os.length with hi | hi
  ·exact (a1 i os[i] (by simp [hi])).lt hF
  ·exact (a3 i hi b hF).elim
 refine ⟨h1.trans (g1.mono h1.size), fun i b => (i < zs.length ∧ G i b) ∨ (zs.length ≤ i ∧ F (i - zs.length) b), fun i o hi => ?_, fun i b hF => ?_, fun i hi b hF => ?_, fun i j b hi hj => ?_⟩
 ·by_cases hl : i < zs.length
  ·rw [List.getElem?_append_left hl] at hi
   have hF : (fun b => (i < zs.length ∧ G i b) ∨ (zs.length ≤ i ∧ F (i - zs.length) b)) = G i := by
    funext b
    exact propext ⟨fun h => h.elim (fun h => h.2) (fun h => by omega), fun h => .inl ⟨hl, h⟩⟩
   show Ob.at w' (fun b => (i < zs.length ∧ G i b) ∨ (zs.length ≤ i ∧ F (i - zs.length) b)) o
   rw [hF]
   exact b1 i o hi
  ·rw [List.getElem?_append_right (by omega)] at hi
   have hF : (fun b => (i < zs.length ∧ G i b) ∨ (zs.length ≤ i ∧ F (i - zs.length) b)) = F (i - zs.length) := by
    funext b
    exact propext ⟨fun h => h.elim (fun h => by omega) (fun h => h.2), fun h => .inr ⟨by omega, h⟩⟩
   show Ob.at w' (fun b => (i < zs.length ∧ G i b) ∨ (zs.length ≤ i ∧ F (i - zs.length) b)) o
   rw [hF]
   exact (a1 _ o hi).chg (Chg.of_below g1 noBlk) (fun _ _ hf => hf)
 ·rcases hF with ⟨_, h⟩ | ⟨_, h⟩
  ·have := b2 i b h; have := h1.size; omega
  ·exact a2 _ b h
 ·rcases hF with ⟨h, _⟩ | ⟨_, h⟩
  ·simp at hi; omega
  ·exact a3 _ (by simp at hi; omega) b h
 ·rcases hi with ⟨p1, p2⟩ | ⟨p1, p2⟩ <;> rcases hj with ⟨r1, r2⟩ | ⟨r1, r2⟩
  ·exact b4 i j b p2 r2
  ·have := b2 i b p2; have := hlt _ b r2; omega
  ·have := b2 j b r2; have := hlt _ b p2; omega
  ·have := a4 _ _ b p2 r2; omega
end Go.Proofs.YtppijfjigcoifaaDoor

namespace Go.Proofs.YtppijfjigcoifaaDoor
open Go.RowKit

theorem RdC.cellOf {w : World} {A : Option Addr} {c k : Nat} {cs : List Cell} (h : RdC w A c cs) (hk : k < cs.length) : ∃ b off, A = some ⟨b, off, none⟩ ∧ b < w.heap.size ∧ cellAt w b (off + k * 16) = some (cAt cs k) := by
 obtain ⟨b, off, e, hz, hr⟩ := h.at_ hk
 exact ⟨b, off, e, hz, by rw [cAt_eq hk]; exact elem_cell hr hk⟩
def strip (c : Cell) : Cell := { c with m0 := 0, m1 := 0, m2 := 0 }
theorem cv_strip (x : Cell) : (((cv x).setIfInBounds 1 (.int .i32 0)).setIfInBounds 2 (.int .i32 0)).setIfInBounds 3 (.int .i32 0) = cv (strip x) := by simp [cv, strip]
theorem Objs.strip {w0 w : World} {os : List Ob} (h : Objs w0 w os) (k : Nat) {g : Nat} {t : TypeId} {x : Cell} (hk : os[k]? = some (.box g t (cv x))) : Objs w0 (((w.setCell ⟨g, 1, none⟩ (.int .i32 0)).setCell ⟨g, 2, none⟩ (.int .i32 0)).setCell ⟨g, 3, none⟩ (.int .i32 0)) (os.set k (.box g t (cv (Proofs.YtppijfjigcoifaaDoor.strip x)))) := by
 have hl := (List.getElem?_eq_some_iff.1 hk).1
 have h1 := h.setBox k (i := 1) (u := .int .i32 0) hk
 have h2 := h1.setBox k (i := 2) (u := .int .i32 0) (by rw [List.getElem?_set_self hl])
 have h3 := h2.setBox k (i := 3) (u := .int .i32 0) (by rw [List.getElem?_set_self (by simpa using hl)])
 rw [List.set_set, List.set_set, cv_strip] at h3
 exact h3
@[go_sem] theorem store_av16_new {b : Nat} (w : World) (zs : Array Value) (a : Act16) (hb : b = w.heap.size) (hz : zs.size = 16) :
  (storeCells ⟨b, 0, none⟩ (av16 a).toList 0).run Tryd.prog (w.alloc (.cells zs 56)) = .ok () (w.alloc (.cells (av16 a) 56)) := by
 subst hb
 exact run_storeCells_new w 56 zs (av16 a) (by rw [av16_size]; kernel_rfl) hz (by simp [av16, Value.oneCell'])
@[go_sem] theorem store_av14_new {b : Nat} (w : World) (zs : Array Value) (a : Act14) (hb : b = w.heap.size) (hz : zs.size = 34) :
  (storeCells ⟨b, 0, none⟩ (av14 a).toList 0).run Tryd.prog (w.alloc (.cells zs 90)) = .ok () (w.alloc (.cells (av14 a) 90)) := by
 subst hb
 exact run_storeCells_new w 90 zs (av14 a) (by rw [av14_size]; kernel_rfl) hz (by simp [av14, Value.oneCell'])
end Go.Proofs.YtppijfjigcoifaaDoor

namespace Go.Proofs.YtppijfjigcoifaaDoor
open Go.RowKit

def lowA (s : Nat) (a : Act16) (j : Nat) : Int := if wOf a.r = 2 ∧ a.auto = false ∧ j = s - 1 then (j : Int) - 1 else j
structure Ho16 (s : Nat) (a : Act16) (j : Nat) (cs0 cs1 : List Cell) (b : Nat) : Prop where
 mark : a.what = 1 → ∀ k, k < s → ¬ cAt cs0 k = cAt cs1 k → k = b ∧ strip (cAt cs0 k) = strip (cAt cs1 k)
 prnt : a.what = 0 → ∀ k, k < s → ¬ cAt cs0 k = cAt cs1 k → (k : Int) < lowA s a j → (k : Int) = lowA s a j - 1 ∧ (cAt cs0 k).width = 2
structure HoR (s rr : Nat) (a : Act16) (i j : Nat) (L0 L1 : List Ln) (i2 j2 : Nat) (pd2 : Bool) (e : Int) (mk : Bool) : Prop where
 kept : Kept14 s rr L1
 same : (¬ e = 0 ∨ (0 < a.what ∧ mk = false)) → L1 = L0
 inn : e = 0 → inG i2 j2 pd2 rr s = true
 row : e = 0 → a.what = 0 → i2 = i
 far : ∀ k, ¬ k = i → L1[k]? = L0[k]?
 cell : ∀ l0 l1 : Ln, L0[i]? = some l0 → L1[i]? = some l1 → ∃ b, Ho16 s a j l0.1 l1.1 b
section
variable {s rr i j : Nat} {a : Act16} {L0 L1 : List Ln} {pd : Bool}
theorem ho16_same (cs : List Cell) : Ho16 s a j cs cs 0 := ⟨fun _ k _ h => absurd rfl h, fun _ k _ h => absurd rfl h⟩
theorem hoR_same {i2 j2 : Nat} {pd2 mk : Bool} {e : Int} (hK : Kept14 s rr L0) (h1 : e = 0 → inG i2 j2 pd2 rr s = true) (h2 : e = 0 → a.what = 0 → i2 = i) : HoR s rr a i j L0 L0 i2 j2 pd2 e mk :=
 ⟨hK, fun _ => rfl, h1, h2, fun _ _ => rfl, fun l0 l1 g0 g1 => by rw [g0] at g1; cases g1; exact ⟨0, ho16_same _⟩⟩
theorem rowMod_far {f : List Cell → List Cell} {k : Nat} (h : ¬ k = i) : (rowMod i f L0)[k]? = L0[k]? := by
 rw [rowMod_is, lnMod_get]
 simp [h]
theorem rowMod_near {f : List Cell → List Cell} {l0 l1 : Ln} (h0 : L0[i]? = some l0) (h1 : (rowMod i f L0)[i]? = some l1) : l1.1 = f l0.1 := by
 rw [rowMod_is, lnMod_get, h0] at h1
 simp at h1
 rw [← h1]
theorem low_at {x0 : Cell} (hs : 0 < s) (hj : j < s) (hx : x0.width = wOf a.r) (hw : wOf a.r = 1 ∨ wOf a.r = 2) (hwr : wrapB s j pd a.auto (wOf a.r) = false) {k : Nat} (hk : (k : Int) < lowA s a j) : lowA s a j = (prAt s j (prCell s x0) : Nat) := by
 have hb : 1 < s → x0.width = 2 → prCell s x0 = x0 := fun h h2 => by unfold prCell; rw [if_neg (by omega)]
 unfold lowA at hk ⊢
 by_cases hc : wOf a.r = 2 ∧ a.auto = false ∧ j = s - 1
 ·rw [if_pos hc] at hk ⊢
  rw [hb (by omega) (by omega)]
  unfold prAt
  omega
 ·rw [if_neg hc] at hk ⊢
  obtain ⟨hxw, hxc⟩ := prCell_width (x := x0) hs (by omega)
  obtain ⟨-, -, -, hat⟩ := prAt_fits (x := prCell s x0) (j := j) hj hxw hxc
  rw [hat]
  rintro ⟨h1, h2⟩
  have h3 : 1 < s := by omega
  have h4 : x0.width = 2 := by
   unfold prCell at h1
   split at h1
   ·simp [blank] at h1
   ·exact h1
  apply hc
  refine ⟨by omega, ?_, h2⟩
  cases ha : a.auto with
  | false => rfl
  | true =>
   rw [ha] at hwr
   unfold wrapB at hwr
   simp only [Bool.true_and, Bool.or_eq_false_iff, Bool.and_eq_false_iff, decide_eq_false_iff_not] at hwr
   omega
theorem hoR_print {x0 : Cell} (hK : Kept14 s rr L0) (hs : 0 < s) (hin : inG i j pd rr s = true) (hx : x0 = ⟨a.r, 0, 0, 0, wOf a.r, a.q⟩) (hw : wOf a.r = 1 ∨ wOf a.r = 2) (hq : a.q.ok = true) (hwr : wrapB s j pd a.auto (wOf a.r) = false) (h0 : a.what = 0) :
  HoR s rr a i j L0 (printL i j s x0 a.ins L0) i (prCol s (prAt s j (prCell s x0)) (prCell s x0)) (prPend s (prAt s j (prCell s x0)) (prCell s x0) a.auto) 0 false := by
 have hing := ingrid_iff.1 hin
 have hj : j < s := by omega
 have hi : i < rr := by omega
 have hx12 : x0.width = 1 ∨ x0.width = 2 := by rw [hx]; exact hw
 have hok : x0.ok = true := by rw [hx]; exact of_ok (by omega) hq
 obtain ⟨k1, k2, k3⟩ := printL_keeps (i := i) (j := j) (x0 := x0) (ins := a.ins) hK.1 hK.2.2 hs hj hx12 hok
 refine ⟨⟨k2, k1.trans hK.2.1, k3⟩, fun h => by rcases h with h | h <;> omega, fun _ => ?_, fun _ _ => rfl, fun k h => rowMod_far h, fun l0 l1 g0 g1 => ⟨0, fun h => by omega, fun _ k hk hd hlow => ?_⟩⟩
 ·rw [← hK.2.1]; exact print_in hs (by rw [hK.2.1]; exact hi)
 ·have e1 := rowMod_near g0 g1
  have hl : l0.1.length = s := hK.1.at_ g0
  obtain ⟨hxw, hxc⟩ := prCell_width (x := x0) hs hx12
  obtain ⟨-, hat, -, -⟩ := prAt_fits (x := prCell s x0) (j := j) hj hxw hxc
  have hlo := low_at (x0 := x0) (pd := pd) hs hj (by rw [hx]) hw hwr hlow
  rw [hlo] at hlow ⊢
  rw [e1] at hd
  obtain ⟨g, g2⟩ := prRow_change hl hat (show k < _ by omega) (by omega) (fun h => hd h.symm)
  exact ⟨by omega, g2⟩
theorem markOf_strip {x y : Cell} {r : Int} (h : markOf x r = (y, 0)) : strip x = strip y := by
 unfold markOf at h
 split at h
 ·cases h
 split at h
 ·cases h
 split at h
 ·cases h; rfl
 split at h
 ·cases h; rfl
 split at h
 ·cases h; rfl
 ·cases h
theorem hoR_mark {c0 : Nat} {l : Ln} (hK : Kept14 s rr L0) (hc0 : c0 < s) (hin : inG i j pd rr s = true) (hl : L0[i]? = some l) (h1 : a.what = 1) : HoR s rr a i j L0 (rowMod i (mkRow c0 a.r) L0) i j pd 0 (mkB l.1 c0 a.r) := by
 refine ⟨⟨hK.1.rowMod i (fun cs h => by rw [mkRow_length]; exact h), by rw [rowMod_length]; exact hK.2.1, hK.2.2.rowMod i (fun l2 h2 => mkRow_V (hK.2.2 l2 h2) (by rw [hK.1 l2 h2]; exact hc0))⟩, fun h => ?_, fun _ => hin, fun _ _ => rfl, fun k h => rowMod_far h, fun l0 l1 g0 g1 => ⟨befN l0.1 c0, fun _ k hk hd => ?_, fun h => by omega⟩⟩
 ·rcases h with h | ⟨-, h⟩
  ·omega
  ·rw [rowMod_some hl]
   have : mkRow c0 a.r l.1 = l.1 := by unfold mkRow; rw [h]; rfl
   rw [this]
   exact set_self hl
 ·rw [rowMod_near g0 g1] at hd ⊢
  unfold mkRow at hd ⊢
  by_cases hm : mkB l0.1 c0 a.r = true
  ·rw [if_pos hm] at hd ⊢
   rw [cAt_set] at hd ⊢
   by_cases hb : befN l0.1 c0 = k ∧ befN l0.1 c0 < l0.1.length
   ·rw [if_pos hb]
    refine ⟨hb.1.symm, ?_⟩
    unfold mkB at hm
    simp only [Bool.and_eq_true, decide_eq_true_eq] at hm
    rw [← hb.1]
    exact markOf_strip (r := a.r) (Prod.ext rfl hm.2)
   ·rw [if_neg hb] at hd; exact absurd rfl hd
  ·rw [if_neg hm] at hd; exact absurd rfl hd
end
section
variable {w0 : World} {s rr i j p : Nat} {a : Act16} {L0 : List Ln} {pd : Bool}
theorem wOf_small {r : Int} (h : 1 ≤ wOf r) : wOf r = 1 ∨ wOf r = 2 := by
 have := wOf_cases r
 omega
theorem hoPrint (h0 : a.what = 0) (hT : Tabs w0) (hs : 0 < s) (hsm : s ≤ 1000) (hr : 0 < rr) (hK : Kept14 s rr L0) (hin : inG i j pd rr s = true) : ∃ (i2 j2 : Nat) (pd2 : Bool) (L1 : List Ln) (e : Int), HoR s rr a i j L0 L1 i2 j2 pd2 e false ∧ ∀ (w : World) (os : List Ob) (k : Nat), Objs w0 w os → os[k]? = some (.grid p 58 s L0) →
  Calls Tryd.prog 38 #[.pointer (some ⟨p, 0, none⟩), .agg #[.int .i64 ↑i, .int .i64 ↑j, .bool pd], .int .i32 a.r, .agg (pv a.q), .bool a.auto, .bool a.ins] w fun x w' => x = .returned (.tuple #[.agg #[.int .i64 ↑i2, .int .i64 ↑j2, .bool pd2], .int .i64 e]) ∧ Objs w0 w' (os.set k (.grid p 58 s L1)) := by
 have hin2 : inG i j pd L0.length s = true := by rw [hK.2.1]; exact hin
 have hL : 0 < L0.length := by rw [hK.2.1]; exact hr
 by_cases hbad : wOf a.r < 1 ∨ a.q.ok = false
 ·exact ⟨0, 0, false, L0, 2, hoR_same hK (by omega) (by omega), fun w os k hS hk => (Print_bad i j pd a.auto a.ins a.r a.q hT hS hk hs hsm hL hin2 hbad).mono fun e w' ⟨h1, h2⟩ => ⟨h1, by rw [set_self hk]; exact h2⟩⟩
 ·have hw : 1 ≤ wOf a.r := by omega
  have hq : a.q.ok = true := by cases h : a.q.ok <;> simp [h] at hbad ⊢
  cases hwr : wrapB s j pd a.auto (wOf a.r) with
  | true => exact ⟨0, 0, false, L0, 8, hoR_same hK (by omega) (by omega), fun w os k hS hk => (Print_wrap i j pd a.auto a.ins a.r a.q hT hS hk hs hsm hL hin2 hw hq hwr).mono fun e w' ⟨h1, h2⟩ => ⟨h1, by rw [set_self hk]; exact h2⟩⟩
  | false => exact ⟨_, _, _, _, 0, hoR_print (x0 := ⟨a.r, 0, 0, 0, wOf a.r, a.q⟩) hK hs hin rfl (wOf_small hw) hq hwr h0, fun w os k hS hk => Print_yes pd a.auto a.ins a.r a.q hT hS hk hs hsm hL hK.1 hin2 hw hq hwr _ rfl⟩
theorem hoMark (h1 : a.what = 1) (hT : Tabs w0) (hs : 0 < s) (hsm : s ≤ 1000) (hr : 0 < rr) (hK : Kept14 s rr L0) (hin : inG i j pd rr s = true) : ∃ (mk : Bool) (L1 : List Ln) (e : Int), HoR s rr a i j L0 L1 i j pd e mk ∧ ∀ (w : World) (os : List Ob) (k : Nat), Objs w0 w os → os[k]? = some (.grid p 58 s L0) →
  Calls Tryd.prog 40 #[.pointer (some ⟨p, 0, none⟩), .agg #[.int .i64 ↑i, .int .i64 ↑j, .bool pd], .int .i32 a.r] w fun x w' => x = .returned (.tuple #[.bool mk, .int .i64 e]) ∧ Objs w0 w' (os.set k (.grid p 58 s L1)) := by
 have hin2 : inG i j pd L0.length s = true := by rw [hK.2.1]; exact hin
 have hL : 0 < L0.length := by rw [hK.2.1]; exact hr
 have hing := ingrid_iff.1 hin
 have hi : i < L0.length := by rw [hK.2.1]; omega
 have hj : j < s := by omega
 obtain ⟨l, hl⟩ := get_of hi
 by_cases hw : wOf a.r = 0
 case neg => exact ⟨false, L0, 2, hoR_same hK (fun _ => hin) (fun _ _ => rfl), fun w os k hS hk => (Mark_bad i j pd a.r hT hS hk hs hsm hL hin2 hw).mono fun e w' ⟨h1, h2⟩ => ⟨h1, by rw [set_self hk]; exact h2⟩⟩
 cases pd with
 | true => exact ⟨_, _, 0, hoR_mark hK hj hin hl h1, fun w os k hS hk => Mark_at (c0 := j) j true a.r hT hS hk hs hsm hL hK.1 hin2 hw (.inl ⟨rfl, rfl⟩) hl (hK.2.2 l (List.mem_of_getElem? hl))⟩
 | false =>
  cases j with
  | zero => exact ⟨false, L0, 0, hoR_same hK (fun _ => hin) (fun _ _ => rfl), fun w os k hS hk => (Mark_front i a.r hT hS hk hs hsm hL hin2 hw).mono fun e w' ⟨h1, h2⟩ => ⟨h1, by rw [set_self hk]; exact h2⟩⟩
  | succ c0 => exact ⟨_, _, 0, hoR_mark hK (show c0 < s by omega) hin hl h1, fun w os k hS hk => Mark_at (c0 := c0) _ false a.r hT hS hk hs hsm hL hK.1 hin2 hw (.inr ⟨rfl, by omega⟩) hl (hK.2.2 l (List.mem_of_getElem? hl))⟩
end
end Go.Proofs.YtppijfjigcoifaaDoor

set_option linter.constructorNameAsVariable false
set_option maxRecDepth 100000
namespace Go.Proofs.YtppijfjigcoifaaDoor
open Go.ChangeShapes Go.WideShapes Go.ChangeAt Go.RowKit Go.Deep Go.WideElems

section
variable {H : Type} {enc : TypeId × Value → H}

theorem trodAll_below {P : Program} (hl : laidOutB P = true) {W W' : World} (hb : Below W.heap.size W W') {sp : Nat → Bool} : ∀ (ts : List TypeId) (vs : List Value) (ds : List (DataW H)) (ps : List MemPlace), (∀ t ∈ ts, P.readableRec t = true ∧ t < P.types.size) →
  DataW.TrodAll enc P W 0 (fun _ => true) true ts vs ds ps → (∀ x ∈ ps, x.block < W.heap.size) → (∀ x ∈ ps, sp x.block = true) → DataW.TrodAll enc P W' 0 sp true ts vs ds ps
 | [], [], [], ps, _, h, _, _ => h
 | t :: ts, v :: vs, d :: ds, ps, ht, h, hlt, hs => by
  obtain ⟨p, q, h1, h2, rfl⟩ := h
  exact ⟨p, q, Trod_stays hl (ht t (by simp)).1 (ht t (by simp)).2 h1 (fun x hx => hb.same (hlt x (by simp [hx]))) (fun x hx => hs x (by simp [hx])),
   trodAll_below hl hb ts vs ds q (fun u hu => ht u (by simp [hu])) h2 (fun x hx => hlt x (by simp [hx])) (fun x hx => hs x (by simp [hx])), rfl⟩
 | [], _ :: _, _, _, _, h, _, _ => by cases h
 | [], [], _ :: _, _, _, h, _, _ => by cases h
 | _ :: _, [], _, _, _, h, _, _ => by cases h
 | _ :: _, _ :: _, [], _, _, h, _, _ => by cases h

theorem law_post {P : Program} {f : Func} {s : ChangeSpec} {W W' : World} {args : Array Value} {ds gs : List (DataW H)} {before : List MemPlace} {tb : TypeId} (hv : s.vars = []) (hl : laidOutB P = true)
  (hW : DataW.Whole enc P f.params.toList s.vars false W args.toList ds gs before) (hpar : ∀ t ∈ f.params.toList, P.readableRec t = true ∧ t < P.types.size)
  (hfn : gs = [] → (s.fn H (ds ++ gs)).results = [.lit (.bool true)] ∧ (s.fn H (ds ++ gs)).args = ds ∧ (s.fn H (ds ++ gs)).vars = []) (hr : f.resultTypes = #[tb]) (htb : P.underlying tb = some .bool) (hb : Below W.heap.size W W') :
  s.post enc P f false true false false W args (.bool true) W' := by
 have hlt : ∀ p ∈ before, p.block < W.heap.size := fun p hp => hW.lt p hp
 have hW' := hW
 obtain ⟨p, q, hA, hV, rfl, hfz, hnd⟩ := hW
 rw [hv] at hV
 obtain ⟨rfl, rfl⟩ := trodVars_none hV
 obtain ⟨f1, f2, f3⟩ := hfn rfl
 have hargs : ∀ sp : Nat → Bool, (∀ x ∈ p, sp x.block = true) → DataW.TrodAll enc P W' 0 sp true f.params.toList args.toList (s.fn H (ds ++ [])).args p := fun sp hs => by
  rw [f2]; exact trodAll_below hl hb _ _ _ _ hpar hA (fun x hx => hlt x (by simp [hx])) hs
 have hres : ∀ (b : Nat) (sp : Nat → Bool) (hd : Bool), DataW.TrodAll enc P W' b sp hd f.resultTypes.toList ((Value.bool true).resultList f.resultTypes.size) (s.fn H (ds ++ [])).results [] := fun b sp hd => by
  rw [f1, hr]; exact trodAll_cons_mk (shut_bool htb _) trodAll_mk0
 have hvars : ∀ sp : Nat → Bool, DataW.TrodVars enc P W' sp s.vars (s.fn H (ds ++ [])).vars [] := fun sp => by rw [hv, f3]; rfl
 have hold : ∀ x ∈ p, (fun b => decide (b < W.heap.size)) x.block = true := fun x hx => by simpa using hlt x (by simp [hx])
 refine ⟨ds, [], p ++ [], [], p, [], hW', hres _ _ _, hargs _ hold, hvars _, World.keptBut_mono (fun x hx => ⟨hx, ?_⟩) (hb.frame (· ∈ p ++ [])), fun h => by cases h⟩
 exact Or.inr (by simpa using hx)

section
variable {w : World} {base : Nat} {sp : Nat → Bool} {hd : Bool} {fuel : Nat} {cs : List Value} {x : DataW H × List MemPlace}
theorem cells_color : Tryd.prog.cellsOf 51 = 5 := by kernel_rfl
theorem cells_pen : Tryd.prog.cellsOf 54 = 11 := by kernel_rfl
theorem cells_i32 : Tryd.prog.cellsOf 21 = 1 := by kernel_rfl
theorem cells_int : Tryd.prog.cellsOf 3 = 1 := by kernel_rfl
theorem cells_u8 : Tryd.prog.cellsOf 5 = 1 := by kernel_rfl
theorem cells_kind : Tryd.prog.cellsOf 49 = 1 := by kernel_rfl
theorem cells_flags : Tryd.prog.cellsOf 52 = 1 := by kernel_rfl
theorem num_field {P : Program} {t : TypeId} {k : IntKind} {c : Value} {y : Option (DataW H × List MemPlace)} (ht : P.underlying t = some (.int k)) (hy : y.isSome = true) (h : DataW.trod enc P w base sp hd fuel t [c] = y) : ∃ n, c = .int k n := by
 obtain ⟨z, hz⟩ := Option.isSome_iff_exists.1 hy
 obtain ⟨n, hn, _⟩ := DataW.trod_int ht (h.trans hz)
 exact ⟨n, by simpa using hn⟩
theorem trod_color (h : DataW.trod enc Tryd.prog w base sp hd fuel 51 cs = some x) : ∃ k i r g b, cs = [.int .i64 k, .int .u8 i, .int .u8 r, .int .u8 g, .int .u8 b] := by
 obtain ⟨xs, n, _, _, hlen, hxl, hf⟩ := DataW.trod_struct Tryd.underlying51 h
 rw [cells_color] at hlen
 match cs, hlen, hf with
 | [c0, c1, c2, c3, c4], _, hf =>
  have h0 : DataW.trod enc Tryd.prog w base sp hd n 49 (([c0, c1, c2, c3, c4].drop 0).take (Tryd.prog.cellsOf 49)) = xs[0]? := hf 0 _ rfl
  have h1 : DataW.trod enc Tryd.prog w base sp hd n 5 (([c0, c1, c2, c3, c4].drop 1).take (Tryd.prog.cellsOf 5)) = xs[1]? := hf 1 _ rfl
  have h2 : DataW.trod enc Tryd.prog w base sp hd n 5 (([c0, c1, c2, c3, c4].drop 2).take (Tryd.prog.cellsOf 5)) = xs[2]? := hf 2 _ rfl
  have h3 : DataW.trod enc Tryd.prog w base sp hd n 5 (([c0, c1, c2, c3, c4].drop 3).take (Tryd.prog.cellsOf 5)) = xs[3]? := hf 3 _ rfl
  have h4 : DataW.trod enc Tryd.prog w base sp hd n 5 (([c0, c1, c2, c3, c4].drop 4).take (Tryd.prog.cellsOf 5)) = xs[4]? := hf 4 _ rfl
  simp only [cells_kind, cells_u8, List.drop_zero, List.drop_succ_cons, List.take_succ_cons, List.take_zero] at h0 h1 h2 h3 h4
  obtain ⟨k, rfl⟩ := num_field Tryd.underlying49 (by simp [hxl]) h0
  obtain ⟨i, rfl⟩ := num_field Tryd.underlying5 (by simp [hxl]) h1
  obtain ⟨r, rfl⟩ := num_field Tryd.underlying5 (by simp [hxl]) h2
  obtain ⟨g, rfl⟩ := num_field Tryd.underlying5 (by simp [hxl]) h3
  obtain ⟨b, rfl⟩ := num_field Tryd.underlying5 (by simp [hxl]) h4
  exact ⟨k, i, r, g, b, rfl⟩
theorem some_of {α : Type} {y : Option α} (h : y.isSome = true) : ∃ z, y = some z := Option.isSome_iff_exists.1 h
theorem trod_pen (h : DataW.trod enc Tryd.prog w base sp hd fuel 54 cs = some x) : ∃ q : Pen, cs = (pv q).toList := by
 obtain ⟨xs, n, _, _, hlen, hxl, hf⟩ := DataW.trod_struct Tryd.underlying54 h
 rw [cells_pen] at hlen
 have h0 : DataW.trod enc Tryd.prog w base sp hd n 51 ((cs.drop 0).take (Tryd.prog.cellsOf 51)) = xs[0]? := hf 0 _ rfl
 have h1 : DataW.trod enc Tryd.prog w base sp hd n 51 ((cs.drop 5).take (Tryd.prog.cellsOf 51)) = xs[1]? := hf 1 _ rfl
 have h2 : DataW.trod enc Tryd.prog w base sp hd n 52 ((cs.drop 10).take (Tryd.prog.cellsOf 52)) = xs[2]? := hf 2 _ rfl
 obtain ⟨z0, e0⟩ := some_of (show (xs[0]?).isSome = true by simp [hxl])
 obtain ⟨z1, e1⟩ := some_of (show (xs[1]?).isSome = true by simp [hxl])
 simp only [cells_color, cells_flags] at h0 h1 h2
 obtain ⟨k, i, r, g, b, hc0⟩ := trod_color (h0.trans e0)
 obtain ⟨k', i', r', g', b', hc1⟩ := trod_color (h1.trans e1)
 match cs, hlen with
 | [c0, c1, c2, c3, c4, c5, c6, c7, c8, c9, c10], _ =>
  simp only [List.drop_zero, List.drop_succ_cons, List.take_succ_cons, List.take_zero] at h2 hc0 hc1
  obtain ⟨fl, rfl⟩ := num_field Tryd.underlying52 (by simp [hxl]) h2
  simp only [List.cons.injEq, and_true] at hc0 hc1
  obtain ⟨rfl, rfl, rfl, rfl, rfl⟩ := hc0
  obtain ⟨rfl, rfl, rfl, rfl, rfl⟩ := hc1
  exact ⟨⟨k, i, r, g, b, k', i', r', g', b', fl⟩, rfl⟩
end
theorem open_pen {v : Value} {w : World} {r : Reach} {b0 base : Nat} {sp : Nat → Bool} {hd : Bool} {d : DataW H} {p : List MemPlace} (hv : Value.okWide Tryd.prog w r b0 54 v) (h : DataW.Trod enc Tryd.prog w base sp hd 54 v d p) : ∃ q : Pen, v = .agg (pv q) := by
 obtain ⟨cs, rfl, _⟩ := okWide_struct Tryd.underlying54 hv
 obtain ⟨fuel, hf⟩ := h
 obtain ⟨q, hq⟩ := trod_pen hf
 exact ⟨q, by rw [show cs = pv q from by simpa [Value.cells] using hq]⟩
end
end Go.Proofs.YtppijfjigcoifaaDoor

namespace Go.Proofs.YtppijfjigcoifaaDoor
open Go.RowKit

def RdI (w : World) (A : Option Addr) (c : Nat) (l : List Int) : Prop := l.length ≤ c ∧ (0 < l.length → ∃ b off, A = some ⟨b, off, none⟩ ∧ b < w.heap.size ∧ w.rangeAt b off (l.map (.int .i32)))
section
variable {w w' : World} {A : Option Addr} {c : Nat} {l : List Int}
theorem RdI.bel (h : RdI w A c l) (hb : Below w.heap.size w w') : RdI w' A c l := ⟨h.1, fun hn => by
 obtain ⟨b, off, e, hz, hr⟩ := h.2 hn
 exact ⟨b, off, e, by have := hb.size; omega, (rangeAt_same (fun i => hb.cell (p := ⟨b, i, none⟩) hz)).2 hr⟩⟩
theorem RdI.at_ (h : RdI w A c l) {k : Nat} (hk : k < l.length) : ∃ b off, A = some ⟨b, off, none⟩ ∧ b < w.heap.size ∧ w.cell? ⟨b, off + k, none⟩ = some (.int .i32 l[k]) := by
 obtain ⟨b, off, e, hz, hr⟩ := h.2 (by omega)
 exact ⟨b, off, e, hz, hr k _ (by simp [hk])⟩
end
section
open Go.ChangeShapes Go.WideShapes Go.Deep
variable {H : Type} {enc : TypeId × Value → H}
set_option maxRecDepth 100000 in
theorem open_i32s {v : Value} {w : World} {r : Reach} {b0 : Nat} {hd : Bool} {d : DataW H} {p : List MemPlace} (hv : Value.okWide Tryd.prog w r b0 76 v) (h : DataW.Trod enc Tryd.prog w 0 (fun _ => true) hd 76 v d p) : ∃ A c l, v = .slice A l.length c ∧ RdI w A c l ∧ c ≤ maxLen := by
 obtain ⟨a0, n0, c0, rfl⟩ := okWide_slice Tryd.underlying76 hv
 obtain ⟨fuel, hf⟩ := h
 rcases open_slice Tryd.underlying76 hf with ⟨he, _⟩ | ⟨a, len, cap, m, n, D, Pl, he, _, hl, hm, hmm, _, hi⟩
 ·exact ⟨none, 0, [], by simpa [Value.cells] using he, ⟨by simp, fun h => by simp at h⟩, by simp [maxLen]⟩
 ·simp only [if_true] at hmm
  subst hmm
  rw [cells_i32] at hi
  have hall : ∀ i, i < len → ∃ x : Int, w.cell? (a.add i) = some (.int .i32 x) := by
   intro i hlt
   obtain ⟨cs', hc, ht⟩ := hi i (by omega)
   obtain ⟨_, hcl, hat⟩ := World.cells?_some hc
   obtain ⟨x, rfl, _⟩ := DataW.trod_int Tryd.underlying21 ht
   have := hat 0 (by omega)
   simp only [Nat.mul_one, Addr.add_zero'] at this
   exact ⟨x, this⟩
  have hl2 : ∃ l : List Int, l.length = len ∧ ∀ i (h : i < l.length), w.cell? (a.add i) = some (.int .i32 l[i]) := by
   refine ⟨(List.range len).map fun i => if h : i < len then (hall i h).choose else 0, by simp, fun i h => ?_⟩
   have hlt : i < len := by simpa using h
   simp only [List.getElem_map, List.getElem_range, hlt, dif_pos]
   exact (hall i hlt).choose_spec
  obtain ⟨l, rfl, hcell⟩ := hl2
  refine ⟨some a, m, l, by simpa [Value.cells] using he, ⟨hl, fun hn => ?_⟩, hm⟩
  have h00 := hcell 0 hn
  simp only [Addr.add_zero'] at h00
  obtain ⟨b, off, spot⟩ := a
  have hspot : spot = none := by
   cases spot with
   | none => rfl
   | some q => simp [World.cell?] at h00; split at h00 <;> simp at h00
  subst hspot
  refine ⟨b, off, rfl, block_lt_of_cell h00, fun j v hv => ?_⟩
  have hj : j < l.length := by have := (List.getElem?_eq_some_iff.1 hv).1; simpa using this
  have := hcell j hj
  rw [add_at] at this
  rw [this, ← hv]
  simp [hj]
end
end Go.Proofs.YtppijfjigcoifaaDoor

set_option linter.constructorNameAsVariable false
set_option maxRecDepth 100000
namespace Go.Proofs.YtppijfjigcoifaaDoor
open Go.ChangeShapes Go.WideShapes Go.ChangeAt Go.RowKit Go.Deep Go.WideElems

section
variable {H : Type} {enc : TypeId × Value → H}
theorem cells_bool : Tryd.prog.cellsOf 4 = 1 := by kernel_rfl
end
end Go.Proofs.YtppijfjigcoifaaDoor

set_option linter.constructorNameAsVariable false
set_option maxRecDepth 100000
namespace Go.Proofs.YtppijfjigcoifaaDoor
open Go.ChangeShapes Go.WideShapes Go.ChangeAt Go.RowKit Go.Deep Go.WideElems

section
variable {H : Type} {enc : TypeId × Value → H}
theorem trod_recs {V : Type} [Inhabited V] {Pr : V → Prop} {w : World} {fuel : Nat} {cs : List Value} {x : DataW H × List MemPlace} {hd : Bool} {tS tE : TypeId} {k : Nat} (av : V → Array Value) (hu : Tryd.prog.underlying tS = some (.slice tE)) (hk : Tryd.prog.cellsOf tE = k) (hk0 : 0 < k) (hav : ∀ a, (av a).size = k)
  (helem : ∀ (fuel : Nat) (cs' : List Value) (x' : DataW H × List MemPlace), DataW.trod enc Tryd.prog w 0 (fun _ => true) hd fuel tE cs' = some x' → ∃ a, cs' = (av a).toList ∧ Pr a)
  (h : DataW.trod enc Tryd.prog w 0 (fun _ => true) hd fuel tS cs = some x) : ∃ (A : Option Addr) (c : Nat) (l : List V), cs = [.slice A l.length c] ∧ RdRec w A c k (l.map av) ∧ c ≤ maxLen ∧ ∀ a ∈ l, Pr a := by
 rcases open_slice hu h with ⟨rfl, _⟩ | ⟨a, len, cap, m, n, D, Pl, rfl, _, hl, hm, hmm, _, hi⟩
 ·exact ⟨none, 0, [], rfl, ⟨by simp, fun _ => rfl, fun h => by simp at h⟩, by simp [maxLen], fun a ha => by simp at ha⟩
 ·simp only [if_true] at hmm
  subst hmm
  rw [hk] at hi
  have hall : ∀ i, i < len → ∃ c : V, Pr c ∧ ∀ j, j < k → w.cell? ((a.add (i * k)).add j) = (av c)[j]? := by
   intro i hlt
   obtain ⟨cs', hc, ht⟩ := hi i (by omega)
   obtain ⟨_, hcl, hat⟩ := World.cells?_some hc
   obtain ⟨c, rfl, hp⟩ := helem _ _ _ ht
   exact ⟨c, hp, fun j hj => by rw [hat j hj]; simp⟩
  have hl2 : ∃ l : List V, l.length = len ∧ (∀ i (h : i < l.length), ∀ j, j < k → w.cell? ((a.add (i * k)).add j) = (av l[i])[j]?) ∧ ∀ c ∈ l, Pr c := by
   refine ⟨(List.range len).map fun i => if h : i < len then (hall i h).choose else default, by simp, fun i h j hj => ?_, fun c hc => ?_⟩
   ·have hlt : i < len := by simpa using h
    simp only [List.getElem_map, List.getElem_range, hlt, dif_pos]
    exact (hall i hlt).choose_spec.2 j hj
   ·obtain ⟨i, hi2, rfl⟩ := List.mem_map.1 hc
    have hlt : i < len := by simpa using hi2
    rw [dif_pos hlt]
    exact (hall i hlt).choose_spec.1
  obtain ⟨l, rfl, hcell, hpr⟩ := hl2
  refine ⟨some a, m, l, rfl, ⟨by simpa using hl, (fun h => by cases h), fun hn => ?_⟩, hm, hpr⟩
  have hn' : 0 < l.length := by simpa using hn
  have h00 := hcell 0 hn' 0 hk0
  have hsz : 0 < (av l[0]).size := by rw [hav]; exact hk0
  rw [Nat.zero_mul, Addr.add_zero', Addr.add_zero', Array.getElem?_eq_getElem hsz] at h00
  obtain ⟨b, off, spot⟩ := a
  have hspot : spot = none := by
   cases spot with
   | none => rfl
   | some q => simp [World.cell?] at h00; split at h00 <;> simp at h00
  subst hspot
  refine ⟨b, off, rfl, block_lt_of_cell h00, fun i r hr => ?_⟩
  rw [List.getElem?_map] at hr
  cases hli : l[i]? with
  | none => rw [hli] at hr; cases hr
  | some y =>
   rw [hli] at hr
   simp only [Option.map_some, Option.some.injEq] at hr
   subst hr
   obtain ⟨hil, hy⟩ := List.getElem?_eq_some_iff.1 hli
   refine recAt_of (hav y) (fun j v hv => ?_)
   have hj : j < k := by have := (List.getElem?_eq_some_iff.1 hv).1; simp [hav] at this; exact this
   have := hcell i hil j hj
   rw [add_at, add_at] at this
   rw [this, hy]
   simpa using hv
theorem open_recs {V : Type} [Inhabited V] {Pr : V → Prop} {v : Value} {w : World} {r : Reach} {b0 : Nat} {hd : Bool} {d : DataW H} {p : List MemPlace} {tS tE : TypeId} {k : Nat} (av : V → Array Value) (hu : Tryd.prog.underlying tS = some (.slice tE)) (hk : Tryd.prog.cellsOf tE = k) (hk0 : 0 < k) (hav : ∀ a, (av a).size = k)
  (helem : ∀ (fuel : Nat) (cs' : List Value) (x' : DataW H × List MemPlace), DataW.trod enc Tryd.prog w 0 (fun _ => true) hd fuel tE cs' = some x' → ∃ a, cs' = (av a).toList ∧ Pr a)
  (hv : Value.okWide Tryd.prog w r b0 tS v) (h : DataW.Trod enc Tryd.prog w 0 (fun _ => true) hd tS v d p) : ∃ (A : Option Addr) (c : Nat) (l : List V), v = .slice A l.length c ∧ RdRec w A c k (l.map av) ∧ c ≤ maxLen ∧ ∀ a ∈ l, Pr a := by
 obtain ⟨a0, n, c, rfl⟩ := okWide_slice hu hv
 obtain ⟨fuel, hf⟩ := h
 obtain ⟨A, c', l, he, hr⟩ := trod_recs av hu hk hk0 hav helem hf
 exact ⟨A, c', l, by simpa [Value.cells] using he, hr⟩
end
end Go.Proofs.YtppijfjigcoifaaDoor

set_option linter.constructorNameAsVariable false
set_option maxRecDepth 100000
namespace Go.Proofs.YtppijfjigcoifaaDoor
open Go.ChangeShapes Go.WideShapes Go.ChangeAt Go.RowKit Go.Deep Go.WideElems

section
variable {H : Type} {enc : TypeId × Value → H}
end
end Go.Proofs.YtppijfjigcoifaaDoor

set_option linter.constructorNameAsVariable false
set_option maxRecDepth 100000
namespace Go.Proofs.YtppijfjigcoifaaDoor
open Go.ChangeShapes Go.WideShapes Go.ChangeAt Go.RowKit Go.Deep Go.WideElems

instance : Inhabited Act14 := ⟨⟨0, 0, 0, 0, 0, cell0, none, 0, [], false, pen0⟩⟩
section
variable {H : Type} {enc : TypeId × Value → H}
end
structure ALine where
 A : Option Addr
 c : Nat
 cs : List Cell
 s : Bool
instance : Inhabited ALine := ⟨⟨none, 0, [], false⟩⟩
section
variable {H : Type} {enc : TypeId × Value → H}
end
end Go.Proofs.YtppijfjigcoifaaDoor

set_option maxRecDepth 100000
namespace Go.Proofs.YtppijfjigcoifaaDoor
open Go.ChangeShapes Go.WideShapes Go.ChangeAt Go.RowKit Go.Deep Go.WideElems

section
variable {H : Type} {enc : TypeId × Value → H}
end
end Go.Proofs.YtppijfjigcoifaaDoor

set_option linter.constructorNameAsVariable false
set_option maxRecDepth 100000
namespace Go.Proofs.YtppijfjigcoifaaDoor
open Go.ChangeShapes Go.WideShapes Go.ChangeAt Go.RowKit Go.Deep Go.WideElems

instance : Inhabited Act16 := ⟨⟨0, 0, 0, pen0, false, false⟩⟩
section
variable {H : Type} {enc : TypeId × Value → H}
theorem cells_act16 : Tryd.prog.cellsOf 56 = 16 := by kernel_rfl
theorem trod_act16 {w : World} {base : Nat} {sp : Nat → Bool} {fuel : Nat} {cs : List Value} {x : DataW H × List MemPlace} {hd : Bool} (h : DataW.trod enc Tryd.prog w base sp hd fuel 56 cs = some x) : ∃ a : Act16, cs = (av16 a).toList := by
 obtain ⟨xs, n, _, _, hlen, hxl, hf⟩ := DataW.trod_struct Tryd.underlying56 h
 rw [cells_act16] at hlen
 have h0 : DataW.trod enc Tryd.prog w base sp hd n 3 ((cs.drop 0).take (Tryd.prog.cellsOf 3)) = xs[0]? := hf 0 _ rfl
 have h1 : DataW.trod enc Tryd.prog w base sp hd n 3 ((cs.drop 1).take (Tryd.prog.cellsOf 3)) = xs[1]? := hf 1 _ rfl
 have h2 : DataW.trod enc Tryd.prog w base sp hd n 21 ((cs.drop 2).take (Tryd.prog.cellsOf 21)) = xs[2]? := hf 2 _ rfl
 have h3 : DataW.trod enc Tryd.prog w base sp hd n 54 ((cs.drop 3).take (Tryd.prog.cellsOf 54)) = xs[3]? := hf 3 _ rfl
 have h4 : DataW.trod enc Tryd.prog w base sp hd n 4 ((cs.drop 14).take (Tryd.prog.cellsOf 4)) = xs[4]? := hf 4 _ rfl
 have h5 : DataW.trod enc Tryd.prog w base sp hd n 4 ((cs.drop 15).take (Tryd.prog.cellsOf 4)) = xs[5]? := hf 5 _ rfl
 obtain ⟨z3, e3⟩ := some_of (show (xs[3]?).isSome = true by simp [hxl])
 obtain ⟨z4, e4⟩ := some_of (show (xs[4]?).isSome = true by simp [hxl])
 obtain ⟨z5, e5⟩ := some_of (show (xs[5]?).isSome = true by simp [hxl])
 simp only [cells_int, cells_i32, cells_bool, cells_pen] at h0 h1 h2 h3 h4 h5
 obtain ⟨q, hq⟩ := trod_pen (h3.trans e3)
 match cs, hlen with
 | [c0, c1, c2, c3, c4, c5, c6, c7, c8, c9, c10, c11, c12, c13, c14, c15], _ =>
  simp only [List.drop_zero, List.drop_succ_cons, List.take_succ_cons, List.take_zero] at h0 h1 h2 h4 h5 hq
  obtain ⟨wh, rfl⟩ := num_field Tryd.underlying3 (by simp [hxl]) h0
  obtain ⟨nn, rfl⟩ := num_field Tryd.underlying3 (by simp [hxl]) h1
  obtain ⟨rr, rfl⟩ := num_field Tryd.underlying21 (by simp [hxl]) h2
  obtain ⟨b4, hb4, _⟩ := DataW.trod_bool Tryd.underlying4 (h4.trans e4)
  obtain ⟨b5, hb5, _⟩ := DataW.trod_bool Tryd.underlying4 (h5.trans e5)
  simp only [List.cons.injEq, and_true] at hb4 hb5
  subst hb4
  subst hb5
  simp only [pv, List.cons.injEq, and_true] at hq
  obtain ⟨rfl, rfl, rfl, rfl, rfl, rfl, rfl, rfl, rfl, rfl, rfl⟩ := hq
  exact ⟨⟨wh, nn, rr, q, b4, b5⟩, rfl⟩
theorem open_acts16 {v : Value} {w : World} {r : Reach} {b0 : Nat} {hd : Bool} {d : DataW H} {p : List MemPlace} (hv : Value.okWide Tryd.prog w r b0 64 v) (h : DataW.Trod enc Tryd.prog w 0 (fun _ => true) hd 64 v d p) : ∃ (A : Option Addr) (c : Nat) (l : List Act16), v = .slice A l.length c ∧ RdRec w A c 16 (l.map av16) ∧ c ≤ maxLen := by
 obtain ⟨A, c, l, h1, h2, h3, -⟩ := open_recs (Pr := fun _ => True) av16 Tryd.underlying64 cells_act16 (by decide) av16_size (fun fuel cs' x' h => by obtain ⟨a, ha⟩ := trod_act16 h; exact ⟨a, ha, trivial⟩) hv h
 exact ⟨A, c, l, h1, h2, h3⟩
end
end Go.Proofs.YtppijfjigcoifaaDoor

set_option linter.constructorNameAsVariable false
set_option maxRecDepth 100000
namespace Go.Proofs.YtppijfjigcoifaaDoor
open Go.ChangeShapes Go.WideShapes Go.ChangeAt Go.RowKit Go.Deep Go.WideElems

theorem own_knob : ownKnob Tryd.prog.godebug = none := by kernel_rfl
theorem laid_out : laidOutB Tryd.prog = true := by kernel_rfl
def pairData {H : Type} (x : Int × Int) : DataW H := .agg [.lit (.int .i32 x.1), .lit (.int .i32 x.2)]
theorem cells_pair : Tryd.prog.cellsOf 126 = 2 := by kernel_rfl
section
variable {H : Type} {enc : TypeId × Value → H} {w : World} {base : Nat} {sp : Nat → Bool} {hd : Bool} {fuel : Nat} {cs : List Value}
theorem num_lit {t : TypeId} {c : Value} {n : Int} {p : List MemPlace} (ht : Tryd.prog.underlying t = some (.int .i32)) (h : DataW.trod enc Tryd.prog w base sp hd fuel t [c] = some (.lit (.int .i32 n), p)) : c = .int .i32 n := by
 obtain ⟨m, hm, hx, _⟩ := DataW.trod_int ht h
 simp only [Prod.mk.injEq, DataW.lit.injEq, Lit.int.injEq, true_and] at hx
 simp only [List.cons.injEq, and_true] at hm
 rw [hm, hx.1]
theorem trod_pair {x : Int × Int} {p : List MemPlace} (h : DataW.trod enc Tryd.prog w base sp hd fuel 126 cs = some (pairData x, p)) : cs = [.int .i32 x.1, .int .i32 x.2] := by
 obtain ⟨xs, n, _, hx, hlen, hxl, hf⟩ := DataW.trod_array Tryd.underlying126 h
 rw [cells_pair] at hlen
 match cs, hlen, xs, hxl, hf, hx with
 | [c0, c1], _, [y0, y1], _, hf, hx =>
  have h0 := hf 0 (by omega)
  have h1 := hf 1 (by omega)
  simp only [cells_i32, Nat.zero_mul, Nat.one_mul, List.drop_zero, List.drop_succ_cons, List.take_succ_cons, List.take_zero, List.getElem?_cons_zero, List.getElem?_cons_succ] at h0 h1
  simp only [pairData, List.map_cons, List.map_nil, Prod.mk.injEq, DataW.agg.injEq, List.cons.injEq, and_true] at hx
  obtain ⟨y0a, y0b⟩ := y0
  obtain ⟨y1a, y1b⟩ := y1
  obtain ⟨⟨e0, e1⟩, _⟩ := hx
  simp only at e0 e1
  subst e0 e1
  rw [num_lit Tryd.underlying21 h0, num_lit Tryd.underlying21 h1]
theorem trod_table {t : TypeId} {tab : List (Int × Int)} {p : List MemPlace} (ht : Tryd.prog.underlying t = some (.array tab.length 126)) (h : DataW.trod enc Tryd.prog w base sp hd fuel t cs = some (.agg (tab.map pairData), p)) :
  ∀ k, k < tab.length → cs[k * 2]? = some (.int .i32 (loOf tab k)) ∧ cs[k * 2 + 1]? = some (.int .i32 (hiOf tab k)) := by
 obtain ⟨xs, n, _, hx, hlen, hxl, hf⟩ := DataW.trod_array ht h
 intro k hk
 have hkf := hf k hk
 rw [cells_pair] at hkf
 have hk2 : k < xs.length := by omega
 rw [List.getElem?_eq_getElem hk2] at hkf
 simp only [Prod.mk.injEq, DataW.agg.injEq] at hx
 have he : xs[k].1 = pairData tab[k] := by
  have := congrArg (fun l => l[k]?) hx.1
  simp only [List.getElem?_map, List.getElem?_eq_getElem hk, List.getElem?_eq_getElem hk2, Option.map_some, Option.some.injEq] at this
  exact this.symm
 have hp := trod_pair (x := tab[k]) (p := xs[k].2) (by rw [hkf, ← he])
 have g0 := congrArg (fun l => l[0]?) hp
 have g1 := congrArg (fun l => l[1]?) hp
 simp only [List.getElem?_take, List.getElem?_drop, List.getElem?_cons_zero, List.getElem?_cons_succ, Nat.add_zero] at g0 g1
 simp only [loOf, hiOf, List.getD_eq_getElem?_getD, List.getElem?_eq_getElem hk, Option.getD_some]
 exact ⟨by simpa using g0, by simpa using g1⟩
end
theorem pairs_of {W : World} {name : String} {g : Nat} {t : TypeId} {tab : List (Int × Int)} {cs : Array Value} {fuel : Nat} {p : List MemPlace} {base : Nat} {sp : Nat → Bool} {hd : Bool} {H : Type} {enc : TypeId × Value → H} (hg : Tryd.prog.globalNamed name = some g) (ht : Tryd.prog.underlying t = some (.array tab.length 126))
  (hv : W.var? Tryd.prog name = some cs) (h : DataW.trod enc Tryd.prog W base sp hd fuel t cs.toList = some (.agg (tab.map pairData), p)) (hn : 0 < tab.length) : Pairs W g tab.length (loOf tab) (hiOf tab) := by
 have hc := World.var?_cell hg hv
 have htb := trod_table ht h
 refine ⟨?_, fun k hk => ?_⟩
 ·have := (htb 0 hn).1
  have h0 := hc 0
  simp only [Nat.zero_mul, Array.getElem?_toList] at this
  rw [this] at h0
  exact block_lt_of_cell h0
 ·obtain ⟨h1, h2⟩ := htb k hk
  rw [hc, hc]
  exact ⟨by simpa using h1, by simpa using h2⟩
theorem tabs_of {W : World} (h : laidMetH Tryd.prog Rows.gridSizesRow.laid W) : Tabs W := by
 have h' : laidMet Tryd.prog Rows.gridSizesRow.laid W := h
 obtain ⟨ps, ⟨g, t, cs, fuel, p, q, hg, ht, hv, hd, ⟨g2, t2, cs2, fuel2, p2, q2, hg2, ht2, hv2, hd2, _⟩, _⟩, _⟩ := h'
 have e1 : Tryd.prog.globalNamed "scrollback/width.marks" = some 0 := by kernel_rfl
 have e2 : Tryd.prog.globalNamed "scrollback/width.wide" = some 1 := by kernel_rfl
 obtain rfl := Option.some.inj (e1.symm.trans hg)
 obtain rfl := Option.some.inj (e2.symm.trans hg2)
 have f1 : (Tryd.prog.globals[0]?).map (·.type) = some 127 := by kernel_rfl
 have f2 : (Tryd.prog.globals[1]?).map (·.type) = some 128 := by kernel_rfl
 obtain rfl := Option.some.inj (f1.symm.trans ht)
 obtain rfl := Option.some.inj (f2.symm.trans ht2)
 exact ⟨pairs_of (tab := marksTab) e1 Tryd.underlying127 hv hd (by decide), pairs_of (tab := wideTab) e2 Tryd.underlying128 hv2 hd2 (by decide)⟩
def setTab (n : Nat) (tab : List (Int × Int)) (h : Array Obj) : Array Obj := h.modify n fun
 | .cells _ t frozen => .cells (tab.flatMap fun x => [Value.int .i32 x.1, Value.int .i32 x.2]).toArray t frozen
 | o => o
noncomputable def laidWorld (os : Os) : World :=
 { World.holding Tryd.prog os ⟨#[], #[], []⟩ with heap := setTab 1 wideTab (setTab 0 marksTab (World.holding Tryd.prog os ⟨#[], #[], []⟩).heap) }
end Go.Proofs.YtppijfjigcoifaaDoor
