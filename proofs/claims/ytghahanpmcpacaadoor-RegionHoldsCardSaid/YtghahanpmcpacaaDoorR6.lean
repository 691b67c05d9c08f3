/-
  Part 6 of the texts on which the proofs of this seat stand: each part says ahead of it what it shows.
-/
import Derived.Test.YtghahanpmcpacaaDoorR5
import Derived.ProofKit
import Derived.OpenShut
import Derived.Deep.Slices
import Derived.Lib.LaidTab
import Derived.ChangeSame
import Derived.Carry
import Derived.Test.YtghahanpmcpacaaDoorCards
import Derived.Test.YtghahanpmcpacaaDoorTie
import Derived.WalkKit
import Derived.Deep.DeepHandedRow

/-
  region: a cursor goes down, and up.
-/
set_option linter.unusedSimpArgs false
set_option linter.unusedVariables false
namespace Go.Proofs.YtghahanpmcpacaaDoor
open Go.RowKit

theorem cursor_size : (Tryd.prog.info? 25).map (·.size) = some 3 := by kernel_rfl
def ixRow (bot rows row : Nat) : Nat := if row = bot then row else min (row + 1) (rows - 1)
def ixGone (top bot row : Nat) (L : List Ln) : List Ln := if row = bot then upL top bot 1 L else []
def ixL (top bot row : Nat) (q : Pen) (cols : Nat) (L : List Ln) : List Ln := if row = bot then rollL top bot 1 q cols L else L
def rvRow (top row : Nat) : Nat := if row = top then row else row - 1
def rvL (top bot row : Nat) (q : Pen) (cols : Nat) (L : List Ln) : List Ln := if row = top then rollL top bot (-1) q cols L else L
section
variable {w0 w : World} {os : List Ob} {k p cols : Nat} {L : List Ln}
set_option maxHeartbeats 4000000 in
theorem Index_no {top bot row col : Int} {pend : Bool} (q : Pen) (hT : Tabs w0) (hS : Objs w0 w os) (hk : os[k]? = some (.grid p 37 cols L)) (hc : 0 < cols) (hcm : cols ≤ 1000) (hL : 0 < L.length) (hno : ¬ (regB L.length top bot = true ∧ inG row col pend L.length cols = true ∧ q.ok = true)) :
    Calls Tryd.prog 13 #[.pointer (some ⟨p, 0, none⟩), .agg #[.int .i64 top, .int .i64 bot], .agg #[.int .i64 row, .int .i64 col, .bool pend], .agg (pv q)] w fun e w' => e = .returned (.tuple #[.agg #[.int .i64 0, .int .i64 0, .bool false], .slice none 0 0, .int .i64 2]) ∧ Objs w0 w' os := by
  have S := Lib.hid hS
  have HT := Lib.hid hT
  have HK := Lib.hid hk
  clear hS hT hk
  have HNO := Lib.hid hno
  clear hno
  go_enter Tryd.func13, Tryd.ntmps13
  go_upto_region 1 with (fail)
  refine at_objsC S.out.alloc4 (fun W hW => ?_)
  generalize hb8 : w.heap.size + 1 + 1 + 1 = b8 at hW ⊢
  generalize hb7 : w.heap.size + 1 + 1 = b7 at hW ⊢
  generalize hb6 : w.heap.size + 1 = b6 at hW ⊢
  generalize hb5 : w.heap.size = b5 at hW ⊢
  clear hb8 hb7 hb6 hb5
  obtain ⟨hx5, hf5, hz5⟩ := (hW.box (k := 3) rfl).facts
  obtain ⟨hx6, hf6, hz6⟩ := (hW.box (k := 2) rfl).facts
  have hp7 := (hW.box (k := 1) rfl).penAt
  have hz7 := (hW.box (k := 1) rfl).lt
  have SW := Lib.hid hW
  clear hW S
  go_wp2_with fail
  refine (rgat_no q HT.out SW.out (k := k + 4) HK.out hc hcm hL HNO.out).mono ?_
  rintro e w1 ⟨rfl, hS⟩
  have S1 := Lib.hid hS
  clear hS SW hx5 hf5 hz5 hx6 hf6 hz6 hp7 hz7
  obtain ⟨hx8, hf8, hz8⟩ := (S1.out.box (k := 0) rfl).facts
  go_wp2_with fail
  have SF := Lib.hid (S1.out.setBox3 (u := .int .i64 0) (v := .int .i64 0) (x := .bool false) (k := 0) rfl)
  (try simp only [Exit.inBlock, Exit.then])
  refine bodyPost_ret (results_cell3 Tryd.results13 _ _ _ 25 _ _ rfl (SF.out.box (k := 0) rfl) Tryd.underlying25 rfl cursor_size) rfl ?_
  exact ⟨rfl, SF.out.tail.tail.tail.tail⟩
set_option maxRecDepth 100000 in
set_option maxHeartbeats 8000000 in
theorem Index_yes {top bot row col : Nat} {pend : Bool} (q : Pen) (hT : Tabs w0) (hS : Objs w0 w os) (hk : os[k]? = some (.grid p 37 cols L)) (hcm : cols ≤ 1000) (hLm : L.length ≤ 1000) (htb : top ≤ bot) (hbl : bot < L.length) (hq : q.ok = true) (hin : inG row col pend L.length cols = true) :
    Calls Tryd.prog 13 #[.pointer (some ⟨p, 0, none⟩), .agg #[.int .i64 top, .int .i64 bot], .agg #[.int .i64 row, .int .i64 col, .bool pend], .agg (pv q)] w fun e w' => ∃ A m c, e = .returned (.tuple #[.agg #[.int .i64 (ixRow bot L.length row : Nat), .int .i64 col, .bool false], .slice A m c, .int .i64 0]) ∧ Objs w0 w' (.lines (.slice A m c) (ixGone top bot row L) :: os.set k (.grid p 37 cols (ixL top bot row q cols L))) := by
  have S := Lib.hid hS
  have HT := Lib.hid hT
  have HK := Lib.hid hk
  clear hS hT hk
  have hing := ingrid_iff.1 hin
  have hc : 0 < cols := by omega
  have hL : 0 < L.length := by omega
  have hrow : row < L.length := by omega
  have HREG := Lib.hid (show regB L.length top bot = true from decide_eq_true ⟨⟨by omega, by omega⟩, by omega, by omega, by omega⟩)
  have HIN := Lib.hid hin
  have HQ := Lib.hid hq
  clear hq hin hing
  by_cases hrb : row = bot
  · obtain rfl : row = bot := hrb
    have HX1 := Lib.hid (show ixRow row L.length row = row from if_pos rfl)
    have HX2 := Lib.hid (show ixGone top row row L = upL top row 1 L from if_pos rfl)
    have HX3 := Lib.hid (show ixL top row row q cols L = rollL top row 1 q cols L from if_pos rfl)
    go_enter Tryd.func13, Tryd.ntmps13
    go_upto_region 1 with (fail)
    refine at_objsC S.out.alloc4 (fun W hW => ?_)
    generalize hb8 : w.heap.size + 1 + 1 + 1 = b8 at hW ⊢
    generalize hb7 : w.heap.size + 1 + 1 = b7 at hW ⊢
    generalize hb6 : w.heap.size + 1 = b6 at hW ⊢
    generalize hb5 : w.heap.size = b5 at hW ⊢
    clear hb8 hb7 hb6 hb5
    obtain ⟨hx5, hf5, hz5⟩ := (hW.box (k := 3) rfl).facts
    obtain ⟨hx6, hf6, hz6⟩ := (hW.box (k := 2) rfl).facts
    have hp7 := (hW.box (k := 1) rfl).penAt
    have hz7 := (hW.box (k := 1) rfl).lt
    have SW := Lib.hid hW
    clear hW S
    go_wp2_with fail
    refine (rgat_fine q HT.out SW.out (k := k + 4) HK.out hc hcm hL HREG.out HIN.out HQ.out).mono ?_
    rintro e w1 ⟨rfl, hS⟩
    have S1 := Lib.hid hS
    clear hS SW hx5 hf5 hz5 hx6 hf6 hz6 hp7 hz7
    obtain ⟨hx5, hf5, hz5⟩ := (S1.out.box (k := 3) rfl).facts
    obtain ⟨hx6, hf6, hz6⟩ := (S1.out.box (k := 2) rfl).facts
    go_upto_region 5 with (fail)
    refine at_objsC (S1.out.alloc1 (c1 := #[.int .i64 row, .int .i64 col, .bool false]) (t1 := 25)) (fun W2 hW2 => ?_)
    generalize hb12 : w1.heap.size = b12 at hW2 ⊢
    clear hb12 hx5 hf5 hz5 hx6 hf6 hz6
    obtain ⟨hx5, hf5, hz5⟩ := (hW2.box (k := 4) rfl).facts
    obtain ⟨hx6, hf6, hz6⟩ := (hW2.box (k := 3) rfl).facts
    have hp7 := (hW2.box (k := 2) rfl).penAt
    have hz7 := (hW2.box (k := 2) rfl).lt
    have S2 := Lib.hid hW2
    clear hW2 S1
    go_wp2_with fail
    refine (Up_yes (n := 1) q HT.out S2.out (k := k + 5) HK.out hc hcm hLm htb hbl HQ.out (by decide)).mono ?_
    rintro e w2 ⟨A, m, c, rfl, hS⟩
    have S3 := Lib.hid hS
    clear hS S2 hx5 hf5 hz5 hx6 hf6 hz6 hp7 hz7
    obtain ⟨hx12, hf12, hz12⟩ := (S3.out.box (k := 1) rfl).facts
    obtain ⟨hx8, hf8, hz8⟩ := (S3.out.box (k := 2) rfl).facts
    go_wp2_with fail
    have SF := Lib.hid (S3.out.setBox3 (u := .int .i64 row) (v := .int .i64 col) (x := .bool false) (k := 2) rfl)
    (try simp only [Exit.inBlock, Exit.then])
    refine bodyPost_ret (results_cell3 Tryd.results13 _ _ _ 25 _ _ rfl (SF.out.box (k := 2) rfl) Tryd.underlying25 rfl cursor_size) rfl ?_
    exact ⟨A, m, c, by rw [HX1.out]; rfl, by rw [HX2.out, HX3.out]; exact ((((SF.out.del 1).del 1).del 1).del 1).del 1⟩
  · have hne : ((row : Int) == (bot : Int)) = false := by rw [beq_eq_false_iff_ne]; omega
    obtain ⟨m, hm⟩ : ∃ m, m = min (row + 1) (L.length - 1) := ⟨_, rfl⟩
    have HX1 := Lib.hid (show ixRow bot L.length row = m by rw [hm]; exact if_neg hrb)
    have HX2 := Lib.hid (show ixGone top bot row L = [] from if_neg hrb)
    have HX3 := Lib.hid (show ixL top bot row q cols L = L from if_neg hrb)
    have HMIN := Lib.hid (show min ((row : Int) + 1) ((L.length : Int) - 1) = (m : Int) by omega)
    have HWR := Lib.hid (show IntKind.i64.wrap ((row : Int) + 1) = (row : Int) + 1 from IntWalk.i64_in _ (by omega))
    have HWL := Lib.hid (show IntKind.i64.wrap ((L.length : Int) - 1) = (L.length : Int) - 1 from IntWalk.i64_in _ (by omega))
    clear hm
    go_enter Tryd.func13, Tryd.ntmps13
    go_upto_region 1 with (fail)
    refine at_objsC S.out.alloc4 (fun W hW => ?_)
    generalize hb8 : w.heap.size + 1 + 1 + 1 = b8 at hW ⊢
    generalize hb7 : w.heap.size + 1 + 1 = b7 at hW ⊢
    generalize hb6 : w.heap.size + 1 = b6 at hW ⊢
    generalize hb5 : w.heap.size = b5 at hW ⊢
    clear hb8 hb7 hb6 hb5
    obtain ⟨hx5, hf5, hz5⟩ := (hW.box (k := 3) rfl).facts
    obtain ⟨hx6, hf6, hz6⟩ := (hW.box (k := 2) rfl).facts
    have hp7 := (hW.box (k := 1) rfl).penAt
    have hz7 := (hW.box (k := 1) rfl).lt
    have SW := Lib.hid hW
    clear hW S
    go_wp2_with fail
    refine (rgat_fine q HT.out SW.out (k := k + 4) HK.out hc hcm hL HREG.out HIN.out HQ.out).mono ?_
    rintro e w1 ⟨rfl, hS⟩
    have S1 := Lib.hid hS
    clear hS SW hx5 hf5 hz5 hx6 hf6 hz6 hp7 hz7
    obtain ⟨hx5, hf5, hz5⟩ := (S1.out.box (k := 3) rfl).facts
    obtain ⟨hx6, hf6, hz6⟩ := (S1.out.box (k := 2) rfl).facts
    go_upto_region 5 with (fail)
    refine at_objsC (S1.out.alloc1 (c1 := #[.int .i64 row, .int .i64 col, .bool false]) (t1 := 25)) (fun W2 hW2 => ?_)
    generalize hb12 : w1.heap.size = b12 at hW2 ⊢
    clear hb12 hx5 hf5 hz5 hx6 hf6 hz6
    obtain ⟨hx5, hf5, hz5⟩ := (hW2.box (k := 4) rfl).facts
    obtain ⟨hx6, hf6, hz6⟩ := (hW2.box (k := 3) rfl).facts
    have hp7 := (hW2.box (k := 2) rfl).penAt
    have hz7 := (hW2.box (k := 2) rfl).lt
    have S2 := Lib.hid hW2
    clear hW2 S1
    go_upto_region 8 with (fail)
    clear hx5 hf5 hz5 hx6 hf6 hz6 hp7 hz7
    refine wp_region_stage (w0 := w0) (os := os) (by kernel_rfl) (by kernel_rfl) (by kernel_rfl) [(0, 8, [], fun vs => .box b12 25 #[.int .i64 ↑m, .int .i64 ↑col, .bool false])] [[], [3], [], [], [], [], [], [], [0]] [.box b12 25 #[.int .i64 ↑row, .int .i64 ↑col, .bool false], .box b8 25 #[.int .i64 0, .int .i64 0, .bool false], .box b7 31 (pv q), .box b6 25 #[.int .i64 ↑row, .int .i64 ↑col, .bool pend], .box b5 23 #[.int .i64 ↑top, .int .i64 ↑bot]] (fun i u => match i with | 0 => u = (.pointer (some ⟨b6, 0, none⟩) : Value) | 1 => u = (.int .i64 ↑row : Value) | 2 => u = (.int .i64 (↑row + 1) : Value) | 3 => u = (.pointer (some ⟨p, 0, none⟩) : Value) | 4 => u = (.int .i64 ↑L.length : Value) | 5 => u = (.int .i64 (↑L.length - 1) : Value) | 6 => u = (.int .i64 ↑m : Value) | 7 => u = (.pointer (some ⟨b12, 0, none⟩) : Value) | 8 => True | _ => True) (fun vs => [.box b12 25 #[.int .i64 ↑m, .int .i64 ↑col, .bool false], .box b8 25 #[.int .i64 0, .int .i64 0, .bool false], .box b7 31 (pv q), .box b6 25 #[.int .i64 ↑row, .int .i64 ↑col, .bool pend], .box b5 23 #[.int .i64 ↑top, .int .i64 ↑bot]]) (by kernel_rfl) (fun vs => by rfl) S2.out ?_ ?_
    · refine SSteps.cons (fun a w' vs σ hS hl hs hk => ?_) ?_
      · have e6 : a.tmps.getD 6 undef = (.pointer (some ⟨b6, 0, none⟩) : Value) := (sk_old hk 6 (by kernel_rfl)).trans rfl
        have f6 := gd e6
        exact ro_pure (v := .pointer (some ⟨b6, 0, none⟩)) (wanted_none rfl) (by simp [execOp, Act.eval, e6, f6, go_sem]) (sp_same (by kernel_rfl) hl hs hS (show (.pointer (some ⟨b6, 0, none⟩) : Value) = _ from rfl)) trivial
      refine SSteps.cons (fun a w' vs σ hS hl hs hk => ?_) ?_
      · have e44 : a.tmps.getD 44 undef = (.pointer (some ⟨b6, 0, none⟩) : Value) := (sk_val hk 0 (by kernel_rfl) rfl rfl).trans ((hk.1 0 (by kernel_rfl)).1)
        have f44 := gd e44
        have hx := (hS.box (sg (hs 3 (by decide)))).cell
        exact ro_pure (v := .int .i64 ↑row) (wanted_none rfl) (by simp [execOp, Act.eval, e44, f44, go_sem, hx]) (sp_same (by kernel_rfl) hl hs hS (show (.int .i64 ↑row : Value) = _ from rfl)) trivial
      refine SSteps.cons (fun a w' vs σ hS hl hs hk => ?_) ?_
      · have e45 : a.tmps.getD 45 undef = (.int .i64 ↑row : Value) := (sk_val hk 1 (by kernel_rfl) rfl rfl).trans ((hk.1 1 (by kernel_rfl)).1)
        have f45 := gd e45
        exact ro_pure (v := .int .i64 (↑row + 1)) (wanted_none rfl) (by simp [execOp, Act.eval, e45, f45, go_sem, HWR.out]) (sp_same (by kernel_rfl) hl hs hS (show (.int .i64 (↑row + 1) : Value) = _ from rfl)) trivial
      refine SSteps.cons (fun a w' vs σ hS hl hs hk => ?_) ?_
      · have e0 : a.tmps.getD 0 undef = (.pointer (some ⟨p, 0, none⟩) : Value) := (sk_old hk 0 (by kernel_rfl)).trans rfl
        have f0 := gd e0
        exact ro_pure (v := .pointer (some ⟨p, 0, none⟩)) (wanted_none rfl) (by simp [execOp, Act.eval, e0, f0, go_sem]) (sp_same (by kernel_rfl) hl hs hS (show (.pointer (some ⟨p, 0, none⟩) : Value) = _ from rfl)) trivial
      refine SSteps.cons (fun a w' vs σ hS hl hs hk => ?_) ?_
      · have e47 : a.tmps.getD 47 undef = (.pointer (some ⟨p, 0, none⟩) : Value) := (sk_val hk 3 (by kernel_rfl) rfl rfl).trans ((hk.1 3 (by kernel_rfl)).1)
        have f47 := gd e47
        have hkk : (σ ++ os)[k + 5]? = some (.grid p 37 ↑cols L) := by have e5 : σ.length = 5 := hl; rw [List.getElem?_append_right (by omega), e5, Nat.add_sub_cancel]; exact HK.out
        exact ro_call (f := 39) (wanted_none rfl) rfl (by simp only [List.map_toArray, List.map_cons, List.map_nil, Act.eval, e47] <;> rfl) (fun _ _ => by kernel_rfl) ((Rows_any hS hkk).mono fun e w2 ⟨h1, h2⟩ => ⟨_, h1, sp_same (by kernel_rfl) hl hs h2 rfl, trivial⟩)
      refine SSteps.cons (fun a w' vs σ hS hl hs hk => ?_) ?_
      · have e48 : a.tmps.getD 48 undef = (.int .i64 ↑L.length : Value) := (sk_val hk 4 (by kernel_rfl) rfl rfl).trans ((hk.1 4 (by kernel_rfl)).1)
        have f48 := gd e48
        exact ro_pure (v := .int .i64 (↑L.length - 1)) (wanted_none rfl) (by simp [execOp, Act.eval, e48, f48, go_sem, HWL.out]) (sp_same (by kernel_rfl) hl hs hS (show (.int .i64 (↑L.length - 1) : Value) = _ from rfl)) trivial
      refine SSteps.cons (fun a w' vs σ hS hl hs hk => ?_) ?_
      · have e46 : a.tmps.getD 46 undef = (.int .i64 (↑row + 1) : Value) := (sk_val hk 2 (by kernel_rfl) rfl rfl).trans ((hk.1 2 (by kernel_rfl)).1)
        have f46 := gd e46
        have e49 : a.tmps.getD 49 undef = (.int .i64 (↑L.length - 1) : Value) := (sk_val hk 5 (by kernel_rfl) rfl rfl).trans ((hk.1 5 (by kernel_rfl)).1)
        have f49 := gd e49
        exact ro_pure (v := .int .i64 ↑m) (wanted_none rfl) (by simp [execOp, Act.eval, e46, f46, e49, f49, go_sem, HMIN.out, resolve, invoke, builtin, Result.andThen]) (sp_same (by kernel_rfl) hl hs hS (show (.int .i64 ↑m : Value) = _ from rfl)) trivial
      refine SSteps.cons (fun a w' vs σ hS hl hs hk => ?_) ?_
      · have e12 : a.tmps.getD 12 undef = (.pointer (some ⟨b12, 0, none⟩) : Value) := (sk_old hk 12 (by kernel_rfl)).trans rfl
        have f12 := gd e12
        exact ro_pure (v := .pointer (some ⟨b12, 0, none⟩)) (wanted_none rfl) (by simp [execOp, Act.eval, e12, f12, go_sem]) (sp_same (by kernel_rfl) hl hs hS (show (.pointer (some ⟨b12, 0, none⟩) : Value) = _ from rfl)) trivial
      refine SSteps.cons (fun a w' vs σ hS hl hs hk => ?_) ?_
      · have e51 : a.tmps.getD 51 undef = (.pointer (some ⟨b12, 0, none⟩) : Value) := (sk_val hk 7 (by kernel_rfl) rfl rfl).trans ((hk.1 7 (by kernel_rfl)).1)
        have f51 := gd e51
        have e50 : a.tmps.getD 50 undef = (.int .i64 ↑m : Value) := (sk_val hk 6 (by kernel_rfl) rfl rfl).trans ((hk.1 6 (by kernel_rfl)).1)
        have f50 := gd e50
        have h1 : σ[0]? = some (.box b12 25 #[.int .i64 ↑row, .int .i64 ↑col, .bool false]) := hs 0 (by decide)
        obtain ⟨hx, hf, hz⟩ := (hS.box (sg h1)).facts
        exact rstep_store (w2 := w'.setCell ⟨b12, 0, none⟩ (.int .i64 ↑m)) (wanted_none rfl) rfl (by simp [execOp, Act.eval, e51, f51, e50, f50, hx, hf, hz, go_sem]) (sp_set 0 (.box b12 25 #[.int .i64 ↑m, .int .i64 ↑col, .bool false]) (by kernel_rfl) (by simp) (by decide) hl hs (by rfl) (hS.setBox 0 (i := 0) (u := .int .i64 ↑m) (sg h1)) trivial) trivial
      exact SSteps.nil
    · intro vs w' hS hv
      have q0 := (show vs 0 = (.pointer (some ⟨b6, 0, none⟩) : Value) from hv 0 (by decide))
      have q1 := (show vs 1 = (.int .i64 ↑row : Value) from hv 1 (by decide))
      have q2 := (show vs 2 = (.int .i64 (↑row + 1) : Value) from hv 2 (by decide))
      have q3 := (show vs 3 = (.pointer (some ⟨p, 0, none⟩) : Value) from hv 3 (by decide))
      have q4 := (show vs 4 = (.int .i64 ↑L.length : Value) from hv 4 (by decide))
      have q5 := (show vs 5 = (.int .i64 (↑L.length - 1) : Value) from hv 5 (by decide))
      have q6 := (show vs 6 = (.int .i64 ↑m : Value) from hv 6 (by decide))
      have q7 := (show vs 7 = (.pointer (some ⟨b12, 0, none⟩) : Value) from hv 7 (by decide))
      have S2 := Lib.hid hS
      simp only [putL, Act.put, Nat.zero_add, Nat.reduceAdd, List.setIfInBounds_toArray, List.set_cons_succ, List.set_cons_zero, q0, q1, q2, q3, q4, q5, q6, q7]
      clear hS hv q0 q1 q2 q3 q4 q5 q6 q7
      have S4 := S2
      clear S2
      obtain ⟨hx12, hf12, hz12⟩ := (S4.out.box (k := 0) rfl).facts
      obtain ⟨hx8, hf8, hz8⟩ := (S4.out.box (k := 1) rfl).facts
      go_wp2_with fail
      have SF := Lib.hid (S4.out.setBox3 (u := .int .i64 m) (v := .int .i64 col) (x := .bool false) (k := 1) rfl)
      (try simp only [Exit.inBlock, Exit.then])
      refine bodyPost_ret (results_cell3 Tryd.results13 _ _ _ 25 _ _ rfl (SF.out.box (k := 1) rfl) Tryd.underlying25 rfl cursor_size) rfl ?_
      exact ⟨none, 0, 0, by rw [HX1.out]; rfl, by rw [HX2.out, HX3.out, set_self HK.out]; exact SF.out.tail.tail.tail.tail.tail.nilLines⟩
set_option maxHeartbeats 4000000 in
theorem Reverse_no {top bot row col : Int} {pend : Bool} (q : Pen) (hT : Tabs w0) (hS : Objs w0 w os) (hk : os[k]? = some (.grid p 37 cols L)) (hc : 0 < cols) (hcm : cols ≤ 1000) (hL : 0 < L.length) (hno : ¬ (regB L.length top bot = true ∧ inG row col pend L.length cols = true ∧ q.ok = true)) :
    Calls Tryd.prog 14 #[.pointer (some ⟨p, 0, none⟩), .agg #[.int .i64 top, .int .i64 bot], .agg #[.int .i64 row, .int .i64 col, .bool pend], .agg (pv q)] w fun e w' => e = .returned (.tuple #[.agg #[.int .i64 0, .int .i64 0, .bool false], .int .i64 2]) ∧ Objs w0 w' os := by
  have S := Lib.hid hS
  have HT := Lib.hid hT
  have HK := Lib.hid hk
  clear hS hT hk
  have HNO := Lib.hid hno
  clear hno
  go_enter Tryd.func14, Tryd.ntmps14
  go_upto_region 1 with (fail)
  refine at_objsC S.out.alloc4 (fun W hW => ?_)
  generalize hb8 : w.heap.size + 1 + 1 + 1 = b8 at hW ⊢
  generalize hb7 : w.heap.size + 1 + 1 = b7 at hW ⊢
  generalize hb6 : w.heap.size + 1 = b6 at hW ⊢
  generalize hb5 : w.heap.size = b5 at hW ⊢
  clear hb8 hb7 hb6 hb5
  obtain ⟨hx5, hf5, hz5⟩ := (hW.box (k := 3) rfl).facts
  obtain ⟨hx6, hf6, hz6⟩ := (hW.box (k := 2) rfl).facts
  have hp7 := (hW.box (k := 1) rfl).penAt
  have hz7 := (hW.box (k := 1) rfl).lt
  have SW := Lib.hid hW
  clear hW S
  go_wp2_with fail
  refine (rgat_no q HT.out SW.out (k := k + 4) HK.out hc hcm hL HNO.out).mono ?_
  rintro e w1 ⟨rfl, hS⟩
  have S1 := Lib.hid hS
  clear hS SW hx5 hf5 hz5 hx6 hf6 hz6 hp7 hz7
  obtain ⟨hx8, hf8, hz8⟩ := (S1.out.box (k := 0) rfl).facts
  go_wp2_with fail
  have SF := Lib.hid (S1.out.setBox3 (u := .int .i64 0) (v := .int .i64 0) (x := .bool false) (k := 0) rfl)
  (try simp only [Exit.inBlock, Exit.then])
  refine bodyPost_ret (results_cell2 Tryd.results14 _ _ _ 25 _ _ rfl (SF.out.box (k := 0) rfl) Tryd.underlying25 rfl cursor_size) rfl ?_
  exact ⟨rfl, SF.out.tail.tail.tail.tail⟩
set_option maxRecDepth 100000 in
set_option maxHeartbeats 8000000 in
theorem Reverse_yes {top bot row col : Nat} {pend : Bool} (q : Pen) (hT : Tabs w0) (hS : Objs w0 w os) (hk : os[k]? = some (.grid p 37 cols L)) (hcm : cols ≤ 1000) (hLm : L.length ≤ 1000) (htb : top ≤ bot) (hbl : bot < L.length) (hq : q.ok = true) (hin : inG row col pend L.length cols = true) :
    Calls Tryd.prog 14 #[.pointer (some ⟨p, 0, none⟩), .agg #[.int .i64 top, .int .i64 bot], .agg #[.int .i64 row, .int .i64 col, .bool pend], .agg (pv q)] w fun e w' => e = .returned (.tuple #[.agg #[.int .i64 (rvRow top row : Nat), .int .i64 col, .bool false], .int .i64 0]) ∧ Objs w0 w' (os.set k (.grid p 37 cols (rvL top bot row q cols L))) := by
  have S := Lib.hid hS
  have HT := Lib.hid hT
  have HK := Lib.hid hk
  clear hS hT hk
  have hing := ingrid_iff.1 hin
  have hc : 0 < cols := by omega
  have hL : 0 < L.length := by omega
  have hrow : row < L.length := by omega
  have HREG := Lib.hid (show regB L.length top bot = true from decide_eq_true ⟨⟨by omega, by omega⟩, by omega, by omega, by omega⟩)
  have HIN := Lib.hid hin
  have HQ := Lib.hid hq
  clear hq hin hing
  by_cases hrb : row = top
  · obtain rfl : row = top := hrb
    have HX1 := Lib.hid (show rvRow row row = row from if_pos rfl)
    have HX3 := Lib.hid (show rvL row bot row q cols L = rollL row bot (-1) q cols L from if_pos rfl)
    go_enter Tryd.func14, Tryd.ntmps14
    go_upto_region 1 with (fail)
    refine at_objsC S.out.alloc4 (fun W hW => ?_)
    generalize hb8 : w.heap.size + 1 + 1 + 1 = b8 at hW ⊢
    generalize hb7 : w.heap.size + 1 + 1 = b7 at hW ⊢
    generalize hb6 : w.heap.size + 1 = b6 at hW ⊢
    generalize hb5 : w.heap.size = b5 at hW ⊢
    clear hb8 hb7 hb6 hb5
    obtain ⟨hx5, hf5, hz5⟩ := (hW.box (k := 3) rfl).facts
    obtain ⟨hx6, hf6, hz6⟩ := (hW.box (k := 2) rfl).facts
    have hp7 := (hW.box (k := 1) rfl).penAt
    have hz7 := (hW.box (k := 1) rfl).lt
    have SW := Lib.hid hW
    clear hW S
    go_wp2_with fail
    refine (rgat_fine q HT.out SW.out (k := k + 4) HK.out hc hcm hL HREG.out HIN.out HQ.out).mono ?_
    rintro e w1 ⟨rfl, hS⟩
    have S1 := Lib.hid hS
    clear hS SW hx5 hf5 hz5 hx6 hf6 hz6 hp7 hz7
    obtain ⟨hx5, hf5, hz5⟩ := (S1.out.box (k := 3) rfl).facts
    obtain ⟨hx6, hf6, hz6⟩ := (S1.out.box (k := 2) rfl).facts
    go_upto_region 5 with (fail)
    refine at_objsC (S1.out.alloc1 (c1 := #[.int .i64 row, .int .i64 col, .bool false]) (t1 := 25)) (fun W2 hW2 => ?_)
    generalize hb12 : w1.heap.size = b12 at hW2 ⊢
    clear hb12 hx5 hf5 hz5 hx6 hf6 hz6
    obtain ⟨hx5, hf5, hz5⟩ := (hW2.box (k := 4) rfl).facts
    obtain ⟨hx6, hf6, hz6⟩ := (hW2.box (k := 3) rfl).facts
    have hp7 := (hW2.box (k := 2) rfl).penAt
    have hz7 := (hW2.box (k := 2) rfl).lt
    have S2 := Lib.hid hW2
    clear hW2 S1
    go_upto_region 6 with (fail)
    clear hx5 hf5 hz5 hx6 hf6 hz6 hp7 hz7
    have SZ := Lib.hid (S2.out.lift (k := k + 5) HK.out)
    clear S2
    refine wp_region_stage (w0 := w0) (os := (os.set k .none)) (by kernel_rfl) (by kernel_rfl) (by kernel_rfl) [(0, 4, [], fun vs => .grid p 37 ↑cols (rollL row bot (-1) q cols L)), (2, 5, [], fun vs => .box b8 25 #[.int .i64 ↑row, .int .i64 ↑col, .bool false])] [[1], [], [5], [3], [0], [2], []] [.grid p 37 ↑cols L, .box b12 25 #[.int .i64 ↑row, .int .i64 ↑col, .bool false], .box b8 25 #[.int .i64 0, .int .i64 0, .bool false], .box b7 31 (pv q), .box b6 25 #[.int .i64 ↑row, .int .i64 ↑col, .bool pend], .box b5 23 #[.int .i64 ↑row, .int .i64 ↑bot]] (fun i u => match i with | 0 => u = (.agg #[.int .i64 ↑row, .int .i64 ↑col, .bool false] : Value) | 1 => u = (.pointer (some ⟨p, 0, none⟩) : Value) | 2 => u = (.agg #[.int .i64 ↑row, .int .i64 ↑bot] : Value) | 3 => u = (.agg (pv q) : Value) | 4 => u = (.int .i64 0 : Value) | 5 => True | 6 => u = (.int .i64 0 : Value) | _ => True) (fun vs => [.grid p 37 ↑cols (rollL row bot (-1) q cols L), .box b12 25 #[.int .i64 ↑row, .int .i64 ↑col, .bool false], .box b8 25 #[.int .i64 ↑row, .int .i64 ↑col, .bool false], .box b7 31 (pv q), .box b6 25 #[.int .i64 ↑row, .int .i64 ↑col, .bool pend], .box b5 23 #[.int .i64 ↑row, .int .i64 ↑bot]]) (by kernel_rfl) (fun vs => by rfl) SZ.out ?_ ?_
    · refine SSteps.cons (fun a w' vs σ hS hl hs hk => ?_) ?_
      · have e11 : a.tmps.getD 11 undef = (.pointer (some ⟨b12, 0, none⟩) : Value) := (sk_old hk 11 (by kernel_rfl)).trans rfl
        have f11 := gd e11
        have hx := (hS.box (sg (hs 1 (by decide)))).cell
        exact ro_pure (v := .agg #[.int .i64 ↑row, .int .i64 ↑col, .bool false]) (wanted_none rfl) (by simp [execOp, Act.eval, e11, f11, go_sem, hx]) (sp_same (by kernel_rfl) hl hs hS (show (.agg #[.int .i64 ↑row, .int .i64 ↑col, .bool false] : Value) = _ from rfl)) trivial
      refine SSteps.cons (fun a w' vs σ hS hl hs hk => ?_) ?_
      · have e0 : a.tmps.getD 0 undef = (.pointer (some ⟨p, 0, none⟩) : Value) := (sk_old hk 0 (by kernel_rfl)).trans rfl
        have f0 := gd e0
        exact ro_pure (v := .pointer (some ⟨p, 0, none⟩)) (wanted_none rfl) (by simp [execOp, Act.eval, e0, f0, go_sem]) (sp_same (by kernel_rfl) hl hs hS (show (.pointer (some ⟨p, 0, none⟩) : Value) = _ from rfl)) trivial
      refine SSteps.cons (fun a w' vs σ hS hl hs hk => ?_) ?_
      · have e5 : a.tmps.getD 5 undef = (.pointer (some ⟨b5, 0, none⟩) : Value) := (sk_old hk 5 (by kernel_rfl)).trans rfl
        have f5 := gd e5
        have hx := (hS.box (sg (hs 5 (by decide)))).cell
        exact ro_pure (v := .agg #[.int .i64 ↑row, .int .i64 ↑bot]) (wanted_none rfl) (by simp [execOp, Act.eval, e5, f5, go_sem, hx]) (sp_same (by kernel_rfl) hl hs hS (show (.agg #[.int .i64 ↑row, .int .i64 ↑bot] : Value) = _ from rfl)) trivial
      refine SSteps.cons (fun a w' vs σ hS hl hs hk => ?_) ?_
      · have e7 : a.tmps.getD 7 undef = (.pointer (some ⟨b7, 0, none⟩) : Value) := (sk_old hk 7 (by kernel_rfl)).trans rfl
        have f7 := gd e7
        have hx := (hS.box (sg (hs 3 (by decide)))).penAt
        exact ro_pure (v := .agg (pv q)) (wanted_none rfl) (by simp [execOp, Act.eval, e7, f7, go_sem, hx]) (sp_same (by kernel_rfl) hl hs hS (show (.agg (pv q) : Value) = _ from rfl)) trivial
      refine SSteps.cons (fun a w' vs σ hS hl hs hk => ?_) ?_
      · have e32 : a.tmps.getD 32 undef = (.pointer (some ⟨p, 0, none⟩) : Value) := (sk_val hk 1 (by kernel_rfl) rfl rfl).trans ((hk.1 1 (by kernel_rfl)).1)
        have f32 := gd e32
        have e33 : a.tmps.getD 33 undef = (.agg #[.int .i64 ↑row, .int .i64 ↑bot] : Value) := (sk_val hk 2 (by kernel_rfl) rfl rfl).trans ((hk.1 2 (by kernel_rfl)).1)
        have f33 := gd e33
        have e34 : a.tmps.getD 34 undef = (.agg (pv q) : Value) := (sk_val hk 3 (by kernel_rfl) rfl rfl).trans ((hk.1 3 (by kernel_rfl)).1)
        have f34 := gd e34
        have h0 : σ[0]? = some (.grid p 37 ↑cols L) := hs 0 (by decide)
        exact ro_call (f := 15) (wanted_none rfl) rfl (by simp only [List.map_toArray, List.map_cons, List.map_nil, Act.eval, e32, e33, e34] <;> rfl) (fun _ _ => by kernel_rfl) ((Down_yes (n := 1) q HT.out hS (sg h0) hc hcm hLm htb hbl HQ.out (by decide)).mono fun e w2 ⟨h1, h2⟩ => ⟨_, h1, sp_set 0 _ (by kernel_rfl) (by simp) (by decide) hl hs (by rfl) h2 rfl, trivial⟩)
      refine SSteps.cons (fun a w' vs σ hS hl hs hk => ?_) ?_
      · have e8 : a.tmps.getD 8 undef = (.pointer (some ⟨b8, 0, none⟩) : Value) := (sk_old hk 8 (by kernel_rfl)).trans rfl
        have f8 := gd e8
        have e31 : a.tmps.getD 31 undef = (.agg #[.int .i64 ↑row, .int .i64 ↑col, .bool false] : Value) := (sk_val hk 0 (by kernel_rfl) rfl rfl).trans ((hk.1 0 (by kernel_rfl)).1)
        have f31 := gd e31
        have h1 : σ[2]? = some (.box b8 25 #[.int .i64 0, .int .i64 0, .bool false]) := hs 2 (by decide)
        obtain ⟨hx, hf, hz⟩ := (hS.box (sg h1)).facts
        exact rstep_store (w2 := ((w'.setCell ⟨b8, 0, none⟩ (.int .i64 ↑row)).setCell ⟨b8, 1, none⟩ (.int .i64 ↑col)).setCell ⟨b8, 2, none⟩ (.bool false)) (wanted_none rfl) rfl (by simp [execOp, Act.eval, e8, f8, e31, f31, hx, hf, hz, go_sem]) (sp_set 2 (.box b8 25 #[.int .i64 ↑row, .int .i64 ↑col, .bool false]) (by kernel_rfl) (by simp) (by decide) hl hs (by rfl) (hS.setBox3 (sg h1)) trivial) trivial
      refine SSteps.cons (fun a w' vs σ hS hl hs hk => ?_) ?_
      · have e35 : a.tmps.getD 35 undef = (.int .i64 0 : Value) := (sk_val hk 4 (by kernel_rfl) rfl rfl).trans ((hk.1 4 (by kernel_rfl)).1)
        have f35 := gd e35
        exact ro_pure (v := .int .i64 0) (wanted_none rfl) (by simp [execOp, Act.eval, e35, f35, go_sem]) (sp_same (by kernel_rfl) hl hs hS (show (.int .i64 0 : Value) = _ from rfl)) trivial
      exact SSteps.nil
    · intro vs w' hS hv
      have q0 := (show vs 0 = (.agg #[.int .i64 ↑row, .int .i64 ↑col, .bool false] : Value) from hv 0 (by decide))
      have q1 := (show vs 1 = (.pointer (some ⟨p, 0, none⟩) : Value) from hv 1 (by decide))
      have q2 := (show vs 2 = (.agg #[.int .i64 ↑row, .int .i64 ↑bot] : Value) from hv 2 (by decide))
      have q3 := (show vs 3 = (.agg (pv q) : Value) from hv 3 (by decide))
      have q4 := (show vs 4 = (.int .i64 0 : Value) from hv 4 (by decide))
      have q6 := (show vs 6 = (.int .i64 0 : Value) from hv 6 (by decide))
      have S2 := Lib.hid hS
      simp only [putL, Act.put, Nat.zero_add, Nat.reduceAdd, List.setIfInBounds_toArray, List.set_cons_succ, List.set_cons_zero, q0, q1, q2, q3, q4, q6]
      clear hS hv q0 q1 q2 q3 q4 q6
      have SF := Lib.hid (show Objs w0 w' (.grid p 37 ↑cols (rollL row bot (-1) q cols L) :: .box b12 25 _ :: .box b8 25 #[.int .i64 ↑row, .int .i64 ↑col, .bool false] :: _ :: _ :: _ :: os.set k .none) from S2.out)
      clear S2
      go_wp2_with fail
      (try simp only [Exit.inBlock, Exit.then])
      refine bodyPost_ret (results_cell2 Tryd.results14 _ _ _ 25 _ _ rfl (SF.out.box (k := 2) rfl) Tryd.underlying25 rfl cursor_size) rfl ?_
      exact ⟨by rw [HX1.out]; rfl, by rw [HX3.out]; exact ((((((SF.out.del 1).del 1).del 1).del 1).del 1).lower HK.out)⟩
  · have hne : ((row : Int) == (top : Int)) = false := by rw [beq_eq_false_iff_ne]; omega
    have HX1 := Lib.hid (show rvRow top row = row - 1 from if_neg hrb)
    have HX3 := Lib.hid (show rvL top bot row q cols L = L from if_neg hrb)
    obtain ⟨m, hm⟩ : ∃ m, m = row - 1 := ⟨_, rfl⟩
    rw [← hm] at HX1
    have hmax : max (0 : Int) ((row : Int) - 1) = (m : Int) := by omega
    have HMAX := Lib.hid hmax
    have HWR := Lib.hid (show IntKind.i64.wrap ((row : Int) - 1) = (row : Int) - 1 from IntWalk.i64_in _ (by omega))
    clear hm hmax
    go_enter Tryd.func14, Tryd.ntmps14
    go_upto_region 1 with (fail)
    refine at_objsC S.out.alloc4 (fun W hW => ?_)
    generalize hb8 : w.heap.size + 1 + 1 + 1 = b8 at hW ⊢
    generalize hb7 : w.heap.size + 1 + 1 = b7 at hW ⊢
    generalize hb6 : w.heap.size + 1 = b6 at hW ⊢
    generalize hb5 : w.heap.size = b5 at hW ⊢
    clear hb8 hb7 hb6 hb5
    obtain ⟨hx5, hf5, hz5⟩ := (hW.box (k := 3) rfl).facts
    obtain ⟨hx6, hf6, hz6⟩ := (hW.box (k := 2) rfl).facts
    have hp7 := (hW.box (k := 1) rfl).penAt
    have hz7 := (hW.box (k := 1) rfl).lt
    have SW := Lib.hid hW
    clear hW S
    go_wp2_with fail
    refine (rgat_fine q HT.out SW.out (k := k + 4) HK.out hc hcm hL HREG.out HIN.out HQ.out).mono ?_
    rintro e w1 ⟨rfl, hS⟩
    have S1 := Lib.hid hS
    clear hS SW hx5 hf5 hz5 hx6 hf6 hz6 hp7 hz7
    obtain ⟨hx5, hf5, hz5⟩ := (S1.out.box (k := 3) rfl).facts
    obtain ⟨hx6, hf6, hz6⟩ := (S1.out.box (k := 2) rfl).facts
    go_upto_region 5 with (fail)
    refine at_objsC (S1.out.alloc1 (c1 := #[.int .i64 row, .int .i64 col, .bool false]) (t1 := 25)) (fun W2 hW2 => ?_)
    generalize hb12 : w1.heap.size = b12 at hW2 ⊢
    clear hb12 hx5 hf5 hz5 hx6 hf6 hz6
    obtain ⟨hx5, hf5, hz5⟩ := (hW2.box (k := 4) rfl).facts
    obtain ⟨hx6, hf6, hz6⟩ := (hW2.box (k := 3) rfl).facts
    have hp7 := (hW2.box (k := 2) rfl).penAt
    have hz7 := (hW2.box (k := 2) rfl).lt
    have S2 := Lib.hid hW2
    clear hW2 S1
    obtain ⟨hx12, hf12, hz12⟩ := (S2.out.box (k := 0) rfl).facts
    obtain ⟨hx8, hf8, hz8⟩ := (S2.out.box (k := 1) rfl).facts
    have hmax := HMAX.out
    have hwr := HWR.out
    go_upto_region 8 with (fail)
    clear hmax hwr hx5 hf5 hz5 hx6 hf6 hz6 hp7 hz7
    refine at_objsC (S2.out.setBox 0 (i := 0) (u := .int .i64 m) rfl) (fun W3 hW3 => ?_)
    clear hx12 hf12 hz12 hx8 hf8 hz8
    have S3 := Lib.hid (show Objs w0 W3 (.box b12 25 #[.int .i64 m, .int .i64 col, .bool false] :: .box b8 25 #[.int .i64 0, .int .i64 0, .bool false] :: _ :: _ :: _ :: os) from hW3)
    clear hW3 S2
    obtain ⟨hx12, hf12, hz12⟩ := (S3.out.box (k := 0) rfl).facts
    obtain ⟨hx8, hf8, hz8⟩ := (S3.out.box (k := 1) rfl).facts
    go_wp2_with fail
    have SF := Lib.hid (S3.out.setBox3 (u := .int .i64 m) (v := .int .i64 col) (x := .bool false) (k := 1) rfl)
    (try simp only [Exit.inBlock, Exit.then])
    refine bodyPost_ret (results_cell2 Tryd.results14 _ _ _ 25 _ _ rfl (SF.out.box (k := 1) rfl) Tryd.underlying25 rfl cursor_size) rfl ?_
    exact ⟨by rw [HX1.out]; rfl, by rw [HX3.out, set_self HK.out]; exact SF.out.tail.tail.tail.tail.tail⟩
end
end Go.Proofs.YtghahanpmcpacaaDoor

/-
  region: a cursor goes down, and up, by the reference.
-/
set_option linter.unusedSimpArgs false
set_option linter.unusedVariables false
namespace Go.Proofs.YtghahanpmcpacaaDoor
open Go.RowKit

section
variable {w0 w : World} {os : List Ob} {k p cols : Nat} {L : List Ln}
set_option maxRecDepth 100000 in
set_option maxHeartbeats 8000000 in
theorem r19Index_any {top bot row col : Nat} {pend : Bool} (q : Pen) (hS : Objs w0 w os) (hk : os[k]? = some (.grid p 63 cols L)) (hcm : cols ≤ 1000) (hLm : L.length ≤ 1000) (hR : Rect cols L) (htb : top ≤ bot) (hbl : bot < L.length) (hrow : row < L.length) :
    Calls Tryd.prog 28 #[.pointer (some ⟨p, 0, none⟩), .agg #[.int .i64 top, .int .i64 bot], .agg #[.int .i64 row, .int .i64 col, .bool pend], .agg (pv q)] w fun e w' => ∃ A m c, e = .returned (.tuple #[.agg #[.int .i64 (ixRow bot L.length row : Nat), .int .i64 col, .bool false], .slice A m c]) ∧ Objs w0 w' (.lines (.slice A m c) (ixGone top bot row L) :: os.set k (.grid p 63 cols (ixL top bot row q cols L))) := by
  have S := Lib.hid hS
  have HK := Lib.hid hk
  have HR := Lib.hid hR
  have HMILL := Lib.hid (show ∀ l ∈ L, l.1.length ≤ 1000000 from fun l hl => by have := hR l hl; omega)
  clear hS hk hR
  by_cases hrb : row = bot
  · obtain rfl : row = bot := hrb
    have HX1 := Lib.hid (show ixRow row L.length row = row from if_pos rfl)
    have HX2 := Lib.hid (show ixGone top row row L = upL top row 1 L from if_pos rfl)
    have HX3 := Lib.hid (show ixL top row row q cols L = rollL top row 1 q cols L from if_pos rfl)
    go_enter Tryd.func28, Tryd.ntmps28
    go_upto_region 1 with (fail)
    refine at_objsC S.out.alloc4 (fun W hW => ?_)
    generalize hb8 : w.heap.size + 1 + 1 + 1 = b8 at hW ⊢
    generalize hb7 : w.heap.size + 1 + 1 = b7 at hW ⊢
    generalize hb6 : w.heap.size + 1 = b6 at hW ⊢
    generalize hb5 : w.heap.size = b5 at hW ⊢
    clear hb8 hb7 hb6 hb5
    obtain ⟨hx6, hf6, hz6⟩ := (hW.box (k := 2) rfl).facts
    have SW := Lib.hid (hW.setBox 2 (i := 2) (u := .bool false) rfl)
    clear hW S
    go_upto_region 2 with (fail)
    refine at_objsC SW.out (fun W1 hW1 => ?_)
    clear hx6 hf6 hz6 SW
    have S1 := Lib.hid (show Objs w0 W1 (.box b8 25 #[.int .i64 0, .int .i64 0, .bool false] :: .box b7 31 (pv q) :: .box b6 25 #[.int .i64 row, .int .i64 col, .bool false] :: .box b5 23 #[.int .i64 top, .int .i64 row] :: os) from hW1)
    clear hW1
    obtain ⟨hx5, hf5, hz5⟩ := (S1.out.box (k := 3) rfl).facts
    obtain ⟨hx6, hf6, hz6⟩ := (S1.out.box (k := 2) rfl).facts
    go_upto_region 3 with (fail)
    clear hx5 hf5 hz5 hx6 hf6 hz6
    have SZ := Lib.hid (S1.out.lift (k := k + 4) HK.out).pad
    clear S1
    refine wp_region_stage (w0 := w0) (os := (os.set k .none)) (by kernel_rfl) (by kernel_rfl) (by kernel_rfl) [(1, 4, [], fun vs => .grid p 63 ↑cols (rollL top row 1 q cols L)), (0, 4, [4], fun vs => .lines (vs 4) (upL top row 1 L)), (2, 5, [], fun vs => .box b8 25 #[.int .i64 ↑row, .int .i64 ↑col, .bool false]), (0, 6, [6], fun vs => .lines (vs 6) (upL top row 1 L))] [[4], [], [5], [3], [0, 1], [2], [0]] [.none, .grid p 63 ↑cols L, .box b8 25 #[.int .i64 0, .int .i64 0, .bool false], .box b7 31 (pv q), .box b6 25 #[.int .i64 ↑row, .int .i64 ↑col, .bool false], .box b5 23 #[.int .i64 ↑top, .int .i64 ↑row]] (fun i u => match i with | 0 => u = (.agg #[.int .i64 ↑row, .int .i64 ↑col, .bool false] : Value) | 1 => u = (.pointer (some ⟨p, 0, none⟩) : Value) | 2 => u = (.agg #[.int .i64 ↑top, .int .i64 ↑row] : Value) | 3 => u = (.agg (pv q) : Value) | 4 => ∃ A m c, u = .slice A m c | 5 => True | 6 => ∃ A m c, u = .slice A m c | _ => True) (fun vs => [.lines (vs 6) (upL top row 1 L), .grid p 63 ↑cols (rollL top row 1 q cols L), .box b8 25 #[.int .i64 ↑row, .int .i64 ↑col, .bool false], .box b7 31 (pv q), .box b6 25 #[.int .i64 ↑row, .int .i64 ↑col, .bool false], .box b5 23 #[.int .i64 ↑top, .int .i64 ↑row]]) (by kernel_rfl) (fun vs => by rfl) SZ.out ?_ ?_
    · refine SSteps.cons (fun a w' vs σ hS hl hs hk => ?_) ?_
      · have e6 : a.tmps.getD 6 undef = (.pointer (some ⟨b6, 0, none⟩) : Value) := (sk_old hk 6 (by kernel_rfl)).trans rfl
        have f6 := gd e6
        have hx := (hS.box (sg (hs 4 (by decide)))).cell
        exact ro_pure (v := .agg #[.int .i64 ↑row, .int .i64 ↑col, .bool false]) (wanted_none rfl) (by simp [execOp, Act.eval, e6, f6, go_sem, hx]) (sp_same (by kernel_rfl) hl hs hS (show (.agg #[.int .i64 ↑row, .int .i64 ↑col, .bool false] : Value) = _ from rfl)) trivial
      refine SSteps.cons (fun a w' vs σ hS hl hs hk => ?_) ?_
      · have e0 : a.tmps.getD 0 undef = (.pointer (some ⟨p, 0, none⟩) : Value) := (sk_old hk 0 (by kernel_rfl)).trans rfl
        have f0 := gd e0
        exact ro_pure (v := .pointer (some ⟨p, 0, none⟩)) (wanted_none rfl) (by simp [execOp, Act.eval, e0, f0, go_sem]) (sp_same (by kernel_rfl) hl hs hS (show (.pointer (some ⟨p, 0, none⟩) : Value) = _ from rfl)) trivial
      refine SSteps.cons (fun a w' vs σ hS hl hs hk => ?_) ?_
      · have e5 : a.tmps.getD 5 undef = (.pointer (some ⟨b5, 0, none⟩) : Value) := (sk_old hk 5 (by kernel_rfl)).trans rfl
        have f5 := gd e5
        have hx := (hS.box (sg (hs 5 (by decide)))).cell
        exact ro_pure (v := .agg #[.int .i64 ↑top, .int .i64 ↑row]) (wanted_none rfl) (by simp [execOp, Act.eval, e5, f5, go_sem, hx]) (sp_same (by kernel_rfl) hl hs hS (show (.agg #[.int .i64 ↑top, .int .i64 ↑row] : Value) = _ from rfl)) trivial
      refine SSteps.cons (fun a w' vs σ hS hl hs hk => ?_) ?_
      · have e7 : a.tmps.getD 7 undef = (.pointer (some ⟨b7, 0, none⟩) : Value) := (sk_old hk 7 (by kernel_rfl)).trans rfl
        have f7 := gd e7
        have hx := (hS.box (sg (hs 3 (by decide)))).penAt
        exact ro_pure (v := .agg (pv q)) (wanted_none rfl) (by simp [execOp, Act.eval, e7, f7, go_sem, hx]) (sp_same (by kernel_rfl) hl hs hS (show (.agg (pv q) : Value) = _ from rfl)) trivial
      refine SSteps.cons (fun a w' vs σ hS hl hs hk => ?_) ?_
      · have e17 : a.tmps.getD 17 undef = (.pointer (some ⟨p, 0, none⟩) : Value) := (sk_val hk 1 (by kernel_rfl) rfl rfl).trans ((hk.1 1 (by kernel_rfl)).1)
        have f17 := gd e17
        have e18 : a.tmps.getD 18 undef = (.agg #[.int .i64 ↑top, .int .i64 ↑row] : Value) := (sk_val hk 2 (by kernel_rfl) rfl rfl).trans ((hk.1 2 (by kernel_rfl)).1)
        have f18 := gd e18
        have e19 : a.tmps.getD 19 undef = (.agg (pv q) : Value) := (sk_val hk 3 (by kernel_rfl) rfl rfl).trans ((hk.1 3 (by kernel_rfl)).1)
        have f19 := gd e19
        have h1 : σ[1]? = some (.grid p 63 ↑cols L) := hs 1 (by decide)
        have hn : σ[0]? = some .none := hs 0 (by decide)
        exact ro_call (f := 61) (wanted_none rfl) rfl (by simp only [List.map_toArray, List.map_cons, List.map_nil, Act.eval, e17, e18, e19] <;> rfl) (fun _ _ => by kernel_rfl) ((r19Up_any (n := 1) q hS (sg h1) hcm hLm HR.out htb hbl (by decide)).mono fun e w2 ⟨A9, m9, c9, h2, h3⟩ => ⟨_, h2, sp_set2 1 0 (.grid p 63 ↑cols (rollL top row 1 q cols L)) (.lines (.slice A9 m9 c9) (upL top row 1 L)) (by decide) (by kernel_rfl) (by simp) (by simp) (by decide) (by decide) hl hs (by rfl) (by rfl) (h3.place (k := 0) (by rw [List.getElem?_set_ne (by decide)]; exact sg hn)) ⟨A9, m9, c9, rfl⟩, trivial⟩)
      refine SSteps.cons (fun a w' vs σ hS hl hs hk => ?_) ?_
      · have e8 : a.tmps.getD 8 undef = (.pointer (some ⟨b8, 0, none⟩) : Value) := (sk_old hk 8 (by kernel_rfl)).trans rfl
        have f8 := gd e8
        have e16 : a.tmps.getD 16 undef = (.agg #[.int .i64 ↑row, .int .i64 ↑col, .bool false] : Value) := (sk_val hk 0 (by kernel_rfl) rfl rfl).trans ((hk.1 0 (by kernel_rfl)).1)
        have f16 := gd e16
        have h1 : σ[2]? = some (.box b8 25 #[.int .i64 0, .int .i64 0, .bool false]) := hs 2 (by decide)
        obtain ⟨hx, hf, hz⟩ := (hS.box (sg h1)).facts
        exact rstep_store (w2 := ((w'.setCell ⟨b8, 0, none⟩ (.int .i64 ↑row)).setCell ⟨b8, 1, none⟩ (.int .i64 ↑col)).setCell ⟨b8, 2, none⟩ (.bool false)) (wanted_none rfl) rfl (by simp [execOp, Act.eval, e8, f8, e16, f16, hx, hf, hz, go_sem]) (sp_set 2 (.box b8 25 #[.int .i64 ↑row, .int .i64 ↑col, .bool false]) (by kernel_rfl) (by simp) (by decide) hl hs (by rfl) (hS.setBox3 (sg h1)) trivial) trivial
      refine SSteps.cons (fun a w' vs σ hS hl hs hk => ?_) ?_
      · have e20 : a.tmps.getD 20 undef = vs 4 := sk_val hk 4 (by kernel_rfl) rfl rfl
        have p20 : (fun u : Value => ∃ A m c, u = .slice A m c) (vs 4) := (hk.1 4 (by kernel_rfl)).1
        have f20 := gd e20
        obtain ⟨A9, n9, c9, q9⟩ := p20
        have e9 := e20.trans q9
        have f9 := gd e9
        have h2 : σ[0]? = some (.lines (vs 4) (upL top row 1 L)) := hs 0 (by decide)
        rw [q9] at h2
        have hSS : Objs w0 w' ((σ ++ (os.set k .none)).set 0 (.lines (.slice A9 n9 c9) (upL top row 1 L))) := by rw [set_self (sg h2)]; exact hS
        exact rs_run (v' := .slice A9 n9 c9) (w' := w') (wanted_none rfl) (by simp [execOp, Act.eval, e9, f9, go_sem]) (sp_set 0 (.lines (.slice A9 n9 c9) (upL top row 1 L)) (by kernel_rfl) (by simp) (by decide) hl hs (by rfl) hSS ⟨A9, n9, c9, rfl⟩)
      exact SSteps.nil
    · intro vs w' hS hv
      have q0 := (show vs 0 = (.agg #[.int .i64 ↑row, .int .i64 ↑col, .bool false] : Value) from hv 0 (by decide))
      have q1 := (show vs 1 = (.pointer (some ⟨p, 0, none⟩) : Value) from hv 1 (by decide))
      have q2 := (show vs 2 = (.agg #[.int .i64 ↑top, .int .i64 ↑row] : Value) from hv 2 (by decide))
      have q3 := (show vs 3 = (.agg (pv q) : Value) from hv 3 (by decide))
      obtain ⟨Ag, mg, cg, qg⟩ := (show ∃ A m c, vs 6 = .slice A m c from hv 6 (by decide))
      obtain ⟨Ah, mh, ch, qh⟩ := (show ∃ A m c, vs 4 = .slice A m c from hv 4 (by decide))
      rw [qg] at hS
      have S2 := Lib.hid hS
      simp only [putL, Act.put, Nat.zero_add, Nat.reduceAdd, List.setIfInBounds_toArray, List.set_cons_succ, List.set_cons_zero, q0, q1, q2, q3]
      clear hS hv q0 q1 q2 q3
      simp only [qg, qh]
      have SF := Lib.hid (show Objs w0 w' (.lines (.slice Ag mg cg) _ :: .grid p 63 ↑cols (rollL top row 1 q cols L) :: .box b8 25 #[.int .i64 ↑row, .int .i64 ↑col, .bool false] :: _ :: _ :: _ :: os.set k .none) from S2.out)
      clear S2
      go_wp2_with fail
      (try simp only [Exit.inBlock, Exit.then])
      refine bodyPost_ret (results_cell2 Tryd.results28 _ _ _ 25 _ _ rfl (SF.out.box (k := 2) rfl) Tryd.underlying25 rfl cursor_size) rfl ?_
      exact ⟨Ag, mg, cg, by rw [HX1.out]; rfl, by rw [HX2.out, HX3.out]; exact (((((SF.out.del 2).del 2).del 2).del 2)).lowerNew HK.out⟩
  · have hne : ((row : Int) == (bot : Int)) = false := by rw [beq_eq_false_iff_ne]; omega
    have HX2 := Lib.hid (show ixGone top bot row L = [] from if_neg hrb)
    have HX3 := Lib.hid (show ixL top bot row q cols L = L from if_neg hrb)
    have HWR := Lib.hid (show IntKind.i64.wrap ((row : Int) + 1) = (row : Int) + 1 from IntWalk.i64_in _ (by omega))
    by_cases hrl : row + 1 < L.length
    · have dl : decide ((row : Int) + 1 < (L.length : Int)) = true := decide_eq_true (by omega)
      have HX1 := Lib.hid (show ixRow bot L.length row = row + 1 by unfold ixRow; rw [if_neg hrb]; omega)
      go_enter Tryd.func28, Tryd.ntmps28
      go_upto_region 1 with (fail)
      refine at_objsC S.out.alloc4 (fun W hW => ?_)
      generalize hb8 : w.heap.size + 1 + 1 + 1 = b8 at hW ⊢
      generalize hb7 : w.heap.size + 1 + 1 = b7 at hW ⊢
      generalize hb6 : w.heap.size + 1 = b6 at hW ⊢
      generalize hb5 : w.heap.size = b5 at hW ⊢
      clear hb8 hb7 hb6 hb5
      obtain ⟨hx6, hf6, hz6⟩ := (hW.box (k := 2) rfl).facts
      have SW := Lib.hid (hW.setBox 2 (i := 2) (u := .bool false) rfl)
      clear hW S
      go_upto_region 2 with (fail)
      refine at_objsC SW.out (fun W1 hW1 => ?_)
      clear hx6 hf6 hz6 SW
      have S1 := Lib.hid (show Objs w0 W1 (.box b8 25 #[.int .i64 0, .int .i64 0, .bool false] :: .box b7 31 (pv q) :: .box b6 25 #[.int .i64 row, .int .i64 col, .bool false] :: .box b5 23 #[.int .i64 top, .int .i64 bot] :: os) from hW1)
      clear hW1
      obtain ⟨hx5, hf5, hz5⟩ := (S1.out.box (k := 3) rfl).facts
      obtain ⟨hx6, hf6, hz6⟩ := (S1.out.box (k := 2) rfl).facts
      obtain ⟨A9, c9, hB9, -, -⟩ := S1.out.gridRd (k := k + 4) HK.out
      obtain ⟨hxx, hfx, hzx⟩ := hB9.facts
      clear hB9
      have hwr := HWR.out
      go_upto_region 4 with (fail)
      refine wp_region_below (by kernel_rfl) (by kernel_rfl) ?_
      repeat (go_big_quiet_step (fail))
      refine wpQuiet_nil ?_
      intro w2 hb2
      have S2 := Lib.hid (S1.out.bel hb2)
      clear hb2 S1 hxx hfx hzx hx5 hf5 hz5 hx6 hf6 hz6
      obtain ⟨hx6, hf6, hz6⟩ := (S2.out.box (k := 2) rfl).facts
      go_upto_region 6 with (fail)
      refine at_objsC (S2.out.setBox 2 (i := 0) (u := .int .i64 (row + 1)) rfl) (fun W3 hW3 => ?_)
      clear hx6 hf6 hz6 hwr S2
      have S3 := Lib.hid (show Objs w0 W3 (.box b8 25 #[.int .i64 0, .int .i64 0, .bool false] :: .box b7 31 (pv q) :: .box b6 25 #[.int .i64 (row + 1), .int .i64 col, .bool false] :: .box b5 23 #[.int .i64 top, .int .i64 bot] :: os) from hW3)
      clear hW3
      obtain ⟨hx6, hf6, hz6⟩ := (S3.out.box (k := 2) rfl).facts
      obtain ⟨hx8, hf8, hz8⟩ := (S3.out.box (k := 0) rfl).facts
      go_wp2_with fail
      have SF := Lib.hid (S3.out.setBox3 (u := .int .i64 (row + 1)) (v := .int .i64 col) (x := .bool false) (k := 0) rfl)
      (try simp only [Exit.inBlock, Exit.then])
      refine bodyPost_ret (results_cell2 Tryd.results28 _ _ _ 25 _ _ rfl (SF.out.box (k := 0) rfl) Tryd.underlying25 rfl cursor_size) rfl ?_
      exact ⟨none, 0, 0, by rw [HX1.out]; rfl, by rw [HX2.out, HX3.out, set_self HK.out]; exact SF.out.tail.tail.tail.tail.nilLines⟩
    · have dl : decide ((row : Int) + 1 < (L.length : Int)) = false := decide_eq_false (by omega)
      have HX1 := Lib.hid (show ixRow bot L.length row = row by unfold ixRow; rw [if_neg hrb]; omega)
      go_enter Tryd.func28, Tryd.ntmps28
      go_upto_region 1 with (fail)
      refine at_objsC S.out.alloc4 (fun W hW => ?_)
      generalize hb8 : w.heap.size + 1 + 1 + 1 = b8 at hW ⊢
      generalize hb7 : w.heap.size + 1 + 1 = b7 at hW ⊢
      generalize hb6 : w.heap.size + 1 = b6 at hW ⊢
      generalize hb5 : w.heap.size = b5 at hW ⊢
      clear hb8 hb7 hb6 hb5
      obtain ⟨hx6, hf6, hz6⟩ := (hW.box (k := 2) rfl).facts
      have SW := Lib.hid (hW.setBox 2 (i := 2) (u := .bool false) rfl)
      clear hW S
      go_upto_region 2 with (fail)
      refine at_objsC SW.out (fun W1 hW1 => ?_)
      clear hx6 hf6 hz6 SW
      have S1 := Lib.hid (show Objs w0 W1 (.box b8 25 #[.int .i64 0, .int .i64 0, .bool false] :: .box b7 31 (pv q) :: .box b6 25 #[.int .i64 row, .int .i64 col, .bool false] :: .box b5 23 #[.int .i64 top, .int .i64 bot] :: os) from hW1)
      clear hW1
      obtain ⟨hx5, hf5, hz5⟩ := (S1.out.box (k := 3) rfl).facts
      obtain ⟨hx6, hf6, hz6⟩ := (S1.out.box (k := 2) rfl).facts
      obtain ⟨A9, c9, hB9, -, -⟩ := S1.out.gridRd (k := k + 4) HK.out
      obtain ⟨hxx, hfx, hzx⟩ := hB9.facts
      clear hB9
      have hwr := HWR.out
      go_upto_region 4 with (fail)
      refine wp_region_below (by kernel_rfl) (by kernel_rfl) ?_
      repeat (go_big_quiet_step (fail))
      refine wpQuiet_nil ?_
      intro w2 hb2
      have S2 := Lib.hid (S1.out.bel hb2)
      clear hb2 S1 hxx hfx hzx hx5 hf5 hz5 hx6 hf6 hz6
      obtain ⟨hx6, hf6, hz6⟩ := (S2.out.box (k := 2) rfl).facts
      obtain ⟨hx8, hf8, hz8⟩ := (S2.out.box (k := 0) rfl).facts
      go_wp2_with fail
      have SF := Lib.hid (S2.out.setBox3 (u := .int .i64 row) (v := .int .i64 col) (x := .bool false) (k := 0) rfl)
      (try simp only [Exit.inBlock, Exit.then])
      refine bodyPost_ret (results_cell2 Tryd.results28 _ _ _ 25 _ _ rfl (SF.out.box (k := 0) rfl) Tryd.underlying25 rfl cursor_size) rfl ?_
      exact ⟨none, 0, 0, by rw [HX1.out]; rfl, by rw [HX2.out, HX3.out, set_self HK.out]; exact SF.out.tail.tail.tail.tail.nilLines⟩
set_option maxRecDepth 100000 in
set_option maxHeartbeats 8000000 in
theorem r19Reverse_any {top bot row col : Nat} {pend : Bool} (q : Pen) (hS : Objs w0 w os) (hk : os[k]? = some (.grid p 63 cols L)) (hcm : cols ≤ 1000) (hLm : L.length ≤ 1000) (hR : Rect cols L) (htb : top ≤ bot) (hbl : bot < L.length) (hrow : row < L.length) :
    Calls Tryd.prog 29 #[.pointer (some ⟨p, 0, none⟩), .agg #[.int .i64 top, .int .i64 bot], .agg #[.int .i64 row, .int .i64 col, .bool pend], .agg (pv q)] w fun e w' => e = .returned (.agg #[.int .i64 (rvRow top row : Nat), .int .i64 col, .bool false]) ∧ Objs w0 w' (os.set k (.grid p 63 cols (rvL top bot row q cols L))) := by
  have S := Lib.hid hS
  have HK := Lib.hid hk
  have HR := Lib.hid hR
  have HMILL := Lib.hid (show ∀ l ∈ L, l.1.length ≤ 1000000 from fun l hl => by have := hR l hl; omega)
  clear hS hk hR
  by_cases hrb : row = top
  · obtain rfl : row = top := hrb
    have HX1 := Lib.hid (show rvRow row row = row from if_pos rfl)
    have HX3 := Lib.hid (show rvL row bot row q cols L = rollL row bot (-1) q cols L from if_pos rfl)
    go_enter Tryd.func29, Tryd.ntmps29
    go_upto_region 1 with (fail)
    refine at_objsC S.out.alloc4 (fun W hW => ?_)
    generalize hb8 : w.heap.size + 1 + 1 + 1 = b8 at hW ⊢
    generalize hb7 : w.heap.size + 1 + 1 = b7 at hW ⊢
    generalize hb6 : w.heap.size + 1 = b6 at hW ⊢
    generalize hb5 : w.heap.size = b5 at hW ⊢
    clear hb8 hb7 hb6 hb5
    obtain ⟨hx6, hf6, hz6⟩ := (hW.box (k := 2) rfl).facts
    have SW := Lib.hid (hW.setBox 2 (i := 2) (u := .bool false) rfl)
    clear hW S
    go_upto_region 2 with (fail)
    refine at_objsC SW.out (fun W1 hW1 => ?_)
    clear hx6 hf6 hz6 SW
    have S1 := Lib.hid (show Objs w0 W1 (.box b8 25 #[.int .i64 0, .int .i64 0, .bool false] :: .box b7 31 (pv q) :: .box b6 25 #[.int .i64 row, .int .i64 col, .bool false] :: .box b5 23 #[.int .i64 row, .int .i64 bot] :: os) from hW1)
    clear hW1
    obtain ⟨hx5, hf5, hz5⟩ := (S1.out.box (k := 3) rfl).facts
    obtain ⟨hx6, hf6, hz6⟩ := (S1.out.box (k := 2) rfl).facts
    have hp7 := (S1.out.box (k := 1) rfl).penAt
    have hz7 := (S1.out.box (k := 1) rfl).lt
    go_wp2_with fail
    refine (r14RollG (-1) q S1.out (k := k + 4) HK.out hcm hLm HMILL.out htb hbl (by decide)).mono ?_
    rintro e w2 ⟨A, m, c, rfl, hS⟩
    have S3 := Lib.hid hS.tail
    clear hS S1 hx5 hf5 hz5 hx6 hf6 hz6 hp7 hz7
    obtain ⟨hx6, hf6, hz6⟩ := (S3.out.box (k := 2) rfl).facts
    obtain ⟨hx8, hf8, hz8⟩ := (S3.out.box (k := 0) rfl).facts
    go_wp2_with fail
    have SF := Lib.hid (S3.out.setBox3 (u := .int .i64 row) (v := .int .i64 col) (x := .bool false) (k := 0) rfl)
    (try simp only [Exit.inBlock, Exit.then])
    refine bodyPost_ret (results_cell1 Tryd.results29 _ _ _ 25 _ _ rfl (SF.out.box (k := 0) rfl) Tryd.underlying25 rfl cursor_size) rfl ?_
    exact ⟨by rw [HX1.out], by rw [HX3.out]; exact SF.out.tail.tail.tail.tail⟩
  · have hne : ((row : Int) == (top : Int)) = false := by rw [beq_eq_false_iff_ne]; omega
    have HX3 := Lib.hid (show rvL top bot row q cols L = L from if_neg hrb)
    have HWR := Lib.hid (show IntKind.i64.wrap ((row : Int) - 1) = (row : Int) - 1 from IntWalk.i64_in _ (by omega))
    by_cases hr0 : 0 < row
    · obtain ⟨m, hm⟩ : ∃ m, m = row - 1 := ⟨_, rfl⟩
      have HX1 := Lib.hid (show rvRow top row = m by rw [hm]; exact if_neg hrb)
      have HMI := Lib.hid (show ((row : Int) - 1) = (m : Int) by omega)
      have dl : decide ((0 : Int) < (row : Int)) = true := decide_eq_true (by omega)
      clear hm
      go_enter Tryd.func29, Tryd.ntmps29
      go_upto_region 1 with (fail)
      refine at_objsC S.out.alloc4 (fun W hW => ?_)
      generalize hb8 : w.heap.size + 1 + 1 + 1 = b8 at hW ⊢
      generalize hb7 : w.heap.size + 1 + 1 = b7 at hW ⊢
      generalize hb6 : w.heap.size + 1 = b6 at hW ⊢
      generalize hb5 : w.heap.size = b5 at hW ⊢
      clear hb8 hb7 hb6 hb5
      obtain ⟨hx6, hf6, hz6⟩ := (hW.box (k := 2) rfl).facts
      have SW := Lib.hid (hW.setBox 2 (i := 2) (u := .bool false) rfl)
      clear hW S
      go_upto_region 2 with (fail)
      refine at_objsC SW.out (fun W1 hW1 => ?_)
      clear hx6 hf6 hz6 SW
      have S1 := Lib.hid (show Objs w0 W1 (.box b8 25 #[.int .i64 0, .int .i64 0, .bool false] :: .box b7 31 (pv q) :: .box b6 25 #[.int .i64 row, .int .i64 col, .bool false] :: .box b5 23 #[.int .i64 top, .int .i64 bot] :: os) from hW1)
      clear hW1
      obtain ⟨hx5, hf5, hz5⟩ := (S1.out.box (k := 3) rfl).facts
      obtain ⟨hx6, hf6, hz6⟩ := (S1.out.box (k := 2) rfl).facts
      have hwr := HWR.out
      go_upto_region 7 with (fail)
      refine at_objsC (S1.out.setBox 2 (i := 0) (u := .int .i64 (row - 1)) rfl) (fun W3 hW3 => ?_)
      clear hwr S1 hx5 hf5 hz5 hx6 hf6 hz6
      have S3 := Lib.hid (show Objs w0 W3 (.box b8 25 #[.int .i64 0, .int .i64 0, .bool false] :: .box b7 31 (pv q) :: .box b6 25 #[.int .i64 (row - 1), .int .i64 col, .bool false] :: .box b5 23 #[.int .i64 top, .int .i64 bot] :: os) from hW3)
      clear hW3
      obtain ⟨hx6, hf6, hz6⟩ := (S3.out.box (k := 2) rfl).facts
      obtain ⟨hx8, hf8, hz8⟩ := (S3.out.box (k := 0) rfl).facts
      go_wp2_with fail
      have SF := Lib.hid (S3.out.setBox3 (u := .int .i64 (row - 1)) (v := .int .i64 col) (x := .bool false) (k := 0) rfl)
      (try simp only [Exit.inBlock, Exit.then])
      refine bodyPost_ret (results_cell1 Tryd.results29 _ _ _ 25 _ _ rfl (SF.out.box (k := 0) rfl) Tryd.underlying25 rfl cursor_size) rfl ?_
      exact ⟨by rw [HX1.out, ← HMI.out], by rw [HX3.out, set_self HK.out]; exact SF.out.tail.tail.tail.tail⟩
    · have HX1 := Lib.hid (show rvRow top row = row by unfold rvRow; rw [if_neg hrb]; omega)
      have dl : decide ((0 : Int) < (row : Int)) = false := decide_eq_false (by omega)
      go_enter Tryd.func29, Tryd.ntmps29
      go_upto_region 1 with (fail)
      refine at_objsC S.out.alloc4 (fun W hW => ?_)
      generalize hb8 : w.heap.size + 1 + 1 + 1 = b8 at hW ⊢
      generalize hb7 : w.heap.size + 1 + 1 = b7 at hW ⊢
      generalize hb6 : w.heap.size + 1 = b6 at hW ⊢
      generalize hb5 : w.heap.size = b5 at hW ⊢
      clear hb8 hb7 hb6 hb5
      obtain ⟨hx6, hf6, hz6⟩ := (hW.box (k := 2) rfl).facts
      have SW := Lib.hid (hW.setBox 2 (i := 2) (u := .bool false) rfl)
      clear hW S
      go_upto_region 2 with (fail)
      refine at_objsC SW.out (fun W1 hW1 => ?_)
      clear hx6 hf6 hz6 SW
      have S1 := Lib.hid (show Objs w0 W1 (.box b8 25 #[.int .i64 0, .int .i64 0, .bool false] :: .box b7 31 (pv q) :: .box b6 25 #[.int .i64 row, .int .i64 col, .bool false] :: .box b5 23 #[.int .i64 top, .int .i64 bot] :: os) from hW1)
      clear hW1
      obtain ⟨hx5, hf5, hz5⟩ := (S1.out.box (k := 3) rfl).facts
      obtain ⟨hx6, hf6, hz6⟩ := (S1.out.box (k := 2) rfl).facts
      obtain ⟨hx8, hf8, hz8⟩ := (S1.out.box (k := 0) rfl).facts
      go_wp2_with fail
      have SF := Lib.hid (S1.out.setBox3 (u := .int .i64 row) (v := .int .i64 col) (x := .bool false) (k := 0) rfl)
      (try simp only [Exit.inBlock, Exit.then])
      refine bodyPost_ret (results_cell1 Tryd.results29 _ _ _ 25 _ _ rfl (SF.out.box (k := 0) rfl) Tryd.underlying25 rfl cursor_size) rfl ?_
      exact ⟨by rw [HX1.out], by rw [HX3.out, set_self HK.out]; exact SF.out.tail.tail.tail.tail⟩
end
end Go.Proofs.YtghahanpmcpacaaDoor

/-
  A call of the chapter on regions.
-/
set_option linter.unusedSimpArgs false
set_option linter.unusedVariables false
namespace Go.Proofs.YtghahanpmcpacaaDoor
open Go.RowKit

@[go_sem ↓] theorem load_ldR18b (a : Addr) : loadCellsFrom a 0 18 #[] = ldR a 18 := rfl
attribute [go_sem high] eqIn_cursor
structure Act19 where
  what : Int
  n : Int
  top : Int
  bot : Int
  row : Int
  col : Int
  pend : Bool
  q : Pen
def av19 (a : Act19) : Array Value := #[.int .i64 a.what, .int .i64 a.n, .int .i64 a.top, .int .i64 a.bot, .int .i64 a.row, .int .i64 a.col, .bool a.pend, .int .i64 a.q.fk, .int .u8 a.q.fi, .int .u8 a.q.fr, .int .u8 a.q.fg, .int .u8 a.q.fb, .int .i64 a.q.bk, .int .u8 a.q.bi, .int .u8 a.q.br, .int .u8 a.q.bg, .int .u8 a.q.bb, .int .u8 a.q.fl]
@[go_sem] theorem av19_size (a : Act19) : (av19 a).size = 18 := by simp [av19]
@[simp high, go_sem high] theorem av19_get0 (a : Act19) : (av19 a)[0]? = some (.int .i64 a.what) := by simp [av19]
@[simp high, go_sem high] theorem av19_get1 (a : Act19) : (av19 a)[1]? = some (.int .i64 a.n) := by simp [av19]
@[simp high, go_sem high] theorem av19_get2 (a : Act19) : (av19 a)[2]? = some (.int .i64 a.top) := by simp [av19]
@[simp high, go_sem high] theorem av19_get3 (a : Act19) : (av19 a)[3]? = some (.int .i64 a.bot) := by simp [av19]
@[simp high, go_sem high] theorem av19_get4 (a : Act19) : (av19 a)[4]? = some (.int .i64 a.row) := by simp [av19]
@[simp high, go_sem high] theorem av19_get5 (a : Act19) : (av19 a)[5]? = some (.int .i64 a.col) := by simp [av19]
@[simp high, go_sem high] theorem av19_get6 (a : Act19) : (av19 a)[6]? = some (.bool a.pend) := by simp [av19]
@[go_sem] theorem av19_set0 (a : Act19) (n : Int) : (av19 a).setIfInBounds 0 (.int .i64 n) = av19 { a with what := n } := by simp [av19]
@[go_sem] theorem av19_set1 (a : Act19) (n : Int) : (av19 a).setIfInBounds 1 (.int .i64 n) = av19 { a with n := n } := by simp [av19]
theorem av19_pen {w : World} {b o : Nat} {a : Act19} (h : w.rangeAt b o (av19 a).toList) : penAt w b (o + 7) = some a.q := penAt_of fun j v hv => by
  have := h (7 + j) v (by rw [← hv]; show ((av19 a).toList)[7 + j]? = _; rw [← List.getElem?_drop]; rfl)
  rw [show o + 7 + j = o + (7 + j) by omega]; exact this
/-- What the walk asks of a box that holds a call. -/
theorem Blk.act19 {w : World} {g : Nat} {t : TypeId} {a : Act19} (h : Blk w g t (av19 a)) : (∀ i, w.cell? ⟨g, i, none⟩ = (av19 a)[i]?) ∧ (∀ i, w.frozen? ⟨g, i, none⟩ = false) ∧ g < w.heap.size ∧ Proofs.YtghahanpmcpacaaDoor.recAt w g 0 18 = some (av19 a) ∧ Proofs.YtghahanpmcpacaaDoor.penAt w g 7 = some a.q :=
  ⟨h.cell, h.frozen, h.lt, h.recAt 18 (av19_size a), by have := av19_pen h.range; simpa using this⟩
theorem in_cases19 (row col : Int) (pend : Bool) (rows cols : Nat) :
    ((decide (0 ≤ row) = false) ∧ Hid (inG row col pend rows cols = false)) ∨ ((decide (0 ≤ row) = true ∧ decide (row < rows) = false) ∧ Hid (inG row col pend rows cols = false)) ∨
    ((decide (0 ≤ row) = true ∧ decide (row < rows) = true) ∧ decide (0 ≤ col) = false ∧ Hid (inG row col pend rows cols = false)) ∨ ((decide (0 ≤ row) = true ∧ decide (row < rows) = true) ∧ (decide (0 ≤ col) = true ∧ decide (col < cols) = false) ∧ Hid (inG row col pend rows cols = false)) ∨
    ((decide (0 ≤ row) = true ∧ decide (row < rows) = true) ∧ (decide (0 ≤ col) = true ∧ decide (col < cols) = true) ∧ Hid (pend = true) ∧ ((col == (cols : Int) - 1) = false) ∧ Hid (inG row col pend rows cols = false)) ∨
    ((decide (0 ≤ row) = true ∧ decide (row < rows) = true) ∧ (decide (0 ≤ col) = true ∧ decide (col < cols) = true) ∧ Hid (pend = true) ∧ ((col == (cols : Int) - 1) = true) ∧ Hid (inG row col pend rows cols = true)) ∨
    ((decide (0 ≤ row) = true ∧ decide (row < rows) = true) ∧ (decide (0 ≤ col) = true ∧ decide (col < cols) = true) ∧ Hid (pend = false) ∧ Hid (inG row col pend rows cols = true)) := by
  have no : ∀ h : ¬ ((0 ≤ row ∧ row < rows) ∧ (0 ≤ col ∧ col < cols) ∧ (pend = true → col = (cols : Int) - 1)), Hid (inG row col pend rows cols = false) := fun h => Lib.hid (decide_eq_false h)
  simp only [decide_eq_true_eq, decide_eq_false_iff_not]
  by_cases h1 : 0 ≤ row
  · by_cases h2 : row < rows
    · by_cases h3 : 0 ≤ col
      · by_cases h4 : col < cols
        · cases pend with
          | true =>
            by_cases h5 : col = (cols : Int) - 1
            · exact .inr (.inr (.inr (.inr (.inr (.inl ⟨⟨h1, h2⟩, ⟨h3, h4⟩, Lib.hid rfl, beq_yes h5, Lib.hid (decide_eq_true ⟨⟨h1, h2⟩, ⟨h3, h4⟩, fun _ => h5⟩)⟩)))))
            · exact .inr (.inr (.inr (.inr (.inl ⟨⟨h1, h2⟩, ⟨h3, h4⟩, Lib.hid rfl, beq_no h5, no (fun h => h5 (h.2.2 rfl))⟩))))
          | false => exact .inr (.inr (.inr (.inr (.inr (.inr ⟨⟨h1, h2⟩, ⟨h3, h4⟩, Lib.hid rfl, Lib.hid (decide_eq_true ⟨⟨h1, h2⟩, ⟨h3, h4⟩, fun h => by cases h⟩)⟩)))))
        · exact .inr (.inr (.inr (.inl ⟨⟨h1, h2⟩, ⟨h3, h4⟩, no (by omega)⟩)))
      · exact .inr (.inr (.inl ⟨⟨h1, h2⟩, h3, no (by omega)⟩))
    · exact .inr (.inl ⟨⟨h1, h2⟩, no (by omega)⟩)
  · exact .inl ⟨h1, no (by omega)⟩

def fine19 (a : Act19) (R : Nat) : Bool := regB R a.top a.bot && a.q.ok
def act19N (a : Act19) (cols : Nat) (L : List Ln) : List Ln :=
  if a.what = 0 then (if fine19 a L.length = true ∧ 0 ≤ a.n then rollL a.top.toNat a.bot.toNat a.n a.q cols L else L)
  else if a.what = 1 then (if fine19 a L.length = true ∧ 0 ≤ a.n then rollL a.top.toNat a.bot.toNat (-a.n) a.q cols L else L)
  else if a.what = 2 then (if fine19 a L.length = true ∧ inG a.row a.col a.pend L.length cols = true then ixL a.top.toNat a.bot.toNat a.row.toNat a.q cols L else L)
  else (if fine19 a L.length = true ∧ inG a.row a.col a.pend L.length cols = true then rvL a.top.toNat a.bot.toNat a.row.toNat a.q cols L else L)
theorem rollL_rect19 {top bot : Nat} {n : Int} {q : Pen} {cols : Nat} {L : List Ln} (hR : Rect cols L) (htb : top ≤ bot) (hbl : bot < L.length) : Rect cols (rollL top bot n q cols L) := fun l hl => by
  obtain ⟨r, hr, rfl⟩ := List.getElem_of_mem hl
  have h1 := rollL_get (n := n) (q := q) (cols := cols) htb hbl r
  rw [List.getElem?_eq_getElem hr] at h1
  have hm : ∀ (o : Option Ln) (p : Prop) [Decidable p] (x : Ln), (∀ y : Ln, o = some y → y.1.length = cols) → some x = o.map (hardIf p) → x.1.length = cols := fun o p _ x ho h => by
    cases o with
    | none => simp at h
    | some y => simp only [Option.map_some, Option.some.injEq] at h; subst h; unfold hardIf; split <;> exact ho y rfl
  have hL : ∀ (i : Nat) (y : Ln), L[i]? = some y → y.1.length = cols := fun i y h => hR y (List.mem_of_getElem? h)
  by_cases hn : n = 0
  · unfold rollAt at h1; rw [if_pos hn] at h1; exact hL r _ h1.symm
  by_cases ho : r < top ∨ bot < r
  · rw [rollAt_out hn ho] at h1; exact hm _ _ _ (hL r) h1
  by_cases hp : 0 < n
  · by_cases h2 : r + rollK n (bot + 1 - top) ≤ bot
    · rw [rollAt_up hp rfl ho h2] at h1; exact hm _ _ _ (hL _) h1
    · rw [rollAt_upf hp rfl ho h2] at h1; simp only [Option.some.injEq] at h1; rw [h1]; simp [freshLn]
  · have hn2 : n < 0 := by omega
    by_cases h2 : r < top + rollK n (bot + 1 - top)
    · rw [rollAt_dnf hn2 rfl ho h2] at h1; simp only [Option.some.injEq] at h1; rw [h1]; simp [freshLn]
    · rw [rollAt_dn hn2 rfl ho h2] at h1; exact hm _ _ _ (hL _) h1
theorem regB_nat {R : Nat} {top bot : Int} (h : regB R top bot = true) : ∃ t b : Nat, top = t ∧ bot = b ∧ t ≤ b ∧ b < R := by
  obtain ⟨-, h2, h3, h4⟩ := of_decide_eq_true h
  exact ⟨top.toNat, bot.toNat, by omega, by omega, by omega, by omega⟩
theorem act19N_rect {a : Act19} {cols : Nat} {L : List Ln} (hR : Rect cols L) : Rect cols (act19N a cols L) ∧ (act19N a cols L).length = L.length := by
  have g : ∀ n, fine19 a L.length = true → Rect cols (rollL a.top.toNat a.bot.toNat n a.q cols L) ∧ (rollL a.top.toNat a.bot.toNat n a.q cols L).length = L.length := fun n h => by
    unfold fine19 at h
    obtain ⟨t, b, e1, e2, h3, h4⟩ := regB_nat (Bool.and_eq_true _ _ ▸ h : _ ∧ _).1
    rw [e1, e2]
    exact ⟨rollL_rect19 hR h3 h4, rollL_length h3 h4⟩
  unfold act19N
  split
  · split
    · next h => exact g _ h.1
    · exact ⟨hR, rfl⟩
  split
  · split
    · next h => exact g _ h.1
    · exact ⟨hR, rfl⟩
  split
  · split
    · next h => unfold ixL; split; exact g _ h.1; exact ⟨hR, rfl⟩
    · exact ⟨hR, rfl⟩
  · split
    · next h => unfold rvL; split; exact g _ h.1; exact ⟨hR, rfl⟩
    · exact ⟨hR, rfl⟩
theorem rollGone_mem {top bot : Nat} {n : Int} {L : List Ln} {l : Ln} (h : l ∈ rollGone top bot n L) : l ∈ L := by
  unfold rollGone rollIn at h
  split at h
  · simp at h
  · split at h
    · exact List.mem_of_mem_drop (List.mem_of_mem_take (List.mem_of_mem_take h))
    · exact List.mem_of_mem_drop (List.mem_of_mem_take (List.mem_of_mem_drop h))
theorem rollGone_len {top bot : Nat} {n : Int} {L : List Ln} : (rollGone top bot n L).length ≤ L.length := by
  unfold rollGone rollIn
  split
  · simp
  · split
    · simp only [List.length_take, List.length_drop]; omega
    · simp only [List.length_drop, List.length_take]; omega
theorem upL_mem {top bot : Nat} {n : Int} {L : List Ln} {l : Ln} (h : l ∈ upL top bot n L) : l ∈ L := by
  unfold upL at h; split at h; simp at h; exact rollGone_mem h
theorem upL_len {top bot : Nat} {n : Int} {L : List Ln} : (upL top bot n L).length ≤ L.length := by
  unfold upL; split; simp; exact rollGone_len
theorem ixGone_mem {top bot row : Nat} {L : List Ln} {l : Ln} (h : l ∈ ixGone top bot row L) : l ∈ L := by
  unfold ixGone at h; split at h; exact upL_mem h; simp at h
theorem ixGone_len {top bot row : Nat} {L : List Ln} : (ixGone top bot row L).length ≤ L.length := by
  unfold ixGone; split; exact upL_len; simp
theorem same_yes {A B : Option Addr} {ca cb n m : Nat} {xs : List Ln} {w0 w : World} {os : List Ob} {i j : Nat} (hS : Objs w0 w os) (hi : os[i]? = some (.lines (.slice A n ca) xs)) (hj : os[j]? = some (.lines (.slice B m cb) xs)) (hn : xs.length ≤ 1000000) (hx : ∀ l ∈ xs, l.1.length ≤ 1000000) :
    Calls Tryd.prog 22 #[.slice A n ca, .slice B m cb] w fun e w' => e = .returned (.bool true) ∧ Objs w0 w' os := by
  obtain ⟨rfl, -, h1⟩ := hS.linesRd' hi
  obtain ⟨rfl, -, h2⟩ := hS.linesRd' hj
  refine (r14SameLines_any A B ca cb xs xs w h1 h2 hn hn hx hx).mono ?_
  rintro e w1 ⟨rfl, hb⟩
  exact ⟨by simp, hS.bel hb⟩
end Go.Proofs.YtghahanpmcpacaaDoor

/-
  What the law's known of chapter 19 calls.
-/
set_option linter.unusedSimpArgs false
set_option linter.unusedVariables false
namespace Go.Proofs.YtghahanpmcpacaaDoor
open Go.RowKit

attribute [go_sem high] eqIn_region
theorem region_size : (Tryd.prog.info? 23).map (·.size) = some 2 := by kernel_rfl
set_option maxHeartbeats 1000000 in
theorem l19to_any (a b : Int) (w : World) : Calls Tryd.prog 43 #[.int .i64 a, .int .i64 b] w fun e w' => e = .returned (.agg #[.int .i64 a, .int .i64 b]) ∧ Below w.heap.size w w' := by
  go_enter Tryd.func43, Tryd.ntmps43
  go_wp2_with fail
  (try simp only [Exit.inBlock, Exit.then])
  exact bodyPost_ret (results_cell1 Tryd.results43 _ _ _ 23 _ _ rfl (Blk.new _ _ _) Tryd.underlying23 rfl region_size) rfl ⟨rfl, (Below.refl _ _).alloc (Nat.le_refl _) _⟩
set_option maxHeartbeats 1000000 in
theorem Whole_4 (w : World) : Calls Tryd.prog 42 #[.int .i64 4] w fun e w' => e = .returned (.tuple #[.agg #[.int .i64 0, .int .i64 3], .int .i64 0]) ∧ Below w.heap.size w w' := by
  go_enter Tryd.func42, Tryd.ntmps42
  go_wp2_with fail
  (try simp only [Exit.inBlock, Exit.then])
  exact bodyPost_ret (results_cell2 Tryd.results42 _ _ _ 23 _ _ rfl (Blk.new _ _ _) Tryd.underlying23 rfl region_size) rfl ⟨rfl, (Below.refl _ _).alloc (Nat.le_refl _) _⟩
set_option maxHeartbeats 1000000 in
theorem Whole_1 (w : World) : Calls Tryd.prog 42 #[.int .i64 1] w fun e w' => e = .returned (.tuple #[.agg #[.int .i64 0, .int .i64 0], .int .i64 0]) ∧ Below w.heap.size w w' := by
  go_enter Tryd.func42, Tryd.ntmps42
  go_wp2_with fail
  (try simp only [Exit.inBlock, Exit.then])
  exact bodyPost_ret (results_cell2 Tryd.results42 _ _ _ 23 _ _ rfl (Blk.new _ _ _) Tryd.underlying23 rfl region_size) rfl ⟨rfl, (Below.refl _ _).alloc (Nat.le_refl _) _⟩
set_option maxHeartbeats 1000000 in
theorem Whole_0 (w : World) : Calls Tryd.prog 42 #[.int .i64 0] w fun e w' => e = .returned (.tuple #[.agg #[.int .i64 0, .int .i64 0], .int .i64 2]) ∧ Below w.heap.size w w' := by
  go_enter Tryd.func42, Tryd.ntmps42
  go_wp2_with fail
  (try simp only [Exit.inBlock, Exit.then])
  exact bodyPost_ret (results_cell2 Tryd.results42 _ _ _ 23 _ _ rfl (Blk.new _ _ _) Tryd.underlying23 rfl region_size) rfl ⟨rfl, (Below.refl _ _).alloc (Nat.le_refl _) _⟩
set_option maxHeartbeats 2000000 in
theorem Of_0 (w : World) : Calls Tryd.prog 72 #[.int .i64 4, .int .i64 2, .int .i64 3] w fun e w' => e = .returned (.tuple #[.agg #[.int .i64 1, .int .i64 2], .int .i64 0]) ∧ Below w.heap.size w w' := by
  go_enter Tryd.func72, Tryd.ntmps72
  go_upto_region 1 with (fail)
  refine at_objsC (objs_start w).alloc1 (fun W hW => ?_)
  generalize hb6 : w.heap.size = b6 at hW ⊢
  rw [← hb6]
  have S := Lib.hid hW
  clear hW
  go_wp2_with fail
  refine (Whole_4 W).mono ?_
  rintro e w1 ⟨rfl, hb⟩
  have S1 := Lib.hid (S.out.bel hb)
  clear hb S
  obtain ⟨hx6, hf6, hz6⟩ := (S1.out.box (k := 0) rfl).facts
  go_wp2_with fail
  have SF := (S1.out.setBox2 (u := .int .i64 1) (v := .int .i64 2) (k := 0) rfl).alloc1 (c1 := #[.int .i64 1, .int .i64 2]) (t1 := 23)
  (try simp only [Exit.inBlock, Exit.then])
  exact bodyPost_ret (results_cell2 Tryd.results72 _ _ _ 23 _ _ rfl (SF.box (k := 1) rfl) Tryd.underlying23 rfl region_size) rfl ⟨rfl, SF.base⟩
set_option maxHeartbeats 2000000 in
theorem of_0 (w : World) : Calls Tryd.prog 44 #[.int .i64 4, .int .i64 2, .int .i64 3, .agg #[.int .i64 1, .int .i64 2], .int .i64 0] w fun e w' => e = .returned (.bool true) ∧ Below w.heap.size w w' := by
  go_enter Tryd.func44, Tryd.ntmps44
  go_upto_region 1 with (fail)
  refine at_objsC (objs_start w).alloc1 (fun W hW => ?_)
  have S := Lib.hid hW
  clear hW
  go_wp2_with fail
  refine (Of_0 W).mono ?_
  rintro e w1 ⟨rfl, hb⟩
  have S1 := Lib.hid (S.out.bel hb)
  clear hb S
  obtain ⟨hx6, hf6, hz6⟩ := (S1.out.box (k := 0) rfl).facts
  go_wp2_with fail
  go_ret
  exact ⟨rfl, S1.out.alloc1.base⟩
set_option maxHeartbeats 2000000 in
theorem Of_1 (w : World) : Calls Tryd.prog 72 #[.int .i64 4, .int .i64 0, .int .i64 0] w fun e w' => e = .returned (.tuple #[.agg #[.int .i64 0, .int .i64 3], .int .i64 0]) ∧ Below w.heap.size w w' := by
  go_enter Tryd.func72, Tryd.ntmps72
  go_upto_region 1 with (fail)
  refine at_objsC (objs_start w).alloc1 (fun W hW => ?_)
  generalize hb6 : w.heap.size = b6 at hW ⊢
  rw [← hb6]
  have S := Lib.hid hW
  clear hW
  go_wp2_with fail
  refine (Whole_4 W).mono ?_
  rintro e w1 ⟨rfl, hb⟩
  have S1 := Lib.hid (S.out.bel hb)
  clear hb S
  obtain ⟨hx6, hf6, hz6⟩ := (S1.out.box (k := 0) rfl).facts
  go_wp2_with fail
  have SF := (S1.out.setBox2 (u := .int .i64 0) (v := .int .i64 3) (k := 0) rfl).alloc1 (c1 := #[.int .i64 0, .int .i64 3]) (t1 := 23)
  (try simp only [Exit.inBlock, Exit.then])
  exact bodyPost_ret (results_cell2 Tryd.results72 _ _ _ 23 _ _ rfl (SF.box (k := 1) rfl) Tryd.underlying23 rfl region_size) rfl ⟨rfl, SF.base⟩
set_option maxHeartbeats 2000000 in
theorem of_1 (w : World) : Calls Tryd.prog 44 #[.int .i64 4, .int .i64 0, .int .i64 0, .agg #[.int .i64 0, .int .i64 3], .int .i64 0] w fun e w' => e = .returned (.bool true) ∧ Below w.heap.size w w' := by
  go_enter Tryd.func44, Tryd.ntmps44
  go_upto_region 1 with (fail)
  refine at_objsC (objs_start w).alloc1 (fun W hW => ?_)
  have S := Lib.hid hW
  clear hW
  go_wp2_with fail
  refine (Of_1 W).mono ?_
  rintro e w1 ⟨rfl, hb⟩
  have S1 := Lib.hid (S.out.bel hb)
  clear hb S
  obtain ⟨hx6, hf6, hz6⟩ := (S1.out.box (k := 0) rfl).facts
  go_wp2_with fail
  go_ret
  exact ⟨rfl, S1.out.alloc1.base⟩
set_option maxHeartbeats 2000000 in
theorem Of_2 (w : World) : Calls Tryd.prog 72 #[.int .i64 4, .int .i64 3, .int .i64 9] w fun e w' => e = .returned (.tuple #[.agg #[.int .i64 2, .int .i64 3], .int .i64 0]) ∧ Below w.heap.size w w' := by
  go_enter Tryd.func72, Tryd.ntmps72
  go_upto_region 1 with (fail)
  refine at_objsC (objs_start w).alloc1 (fun W hW => ?_)
  generalize hb6 : w.heap.size = b6 at hW ⊢
  rw [← hb6]
  have S := Lib.hid hW
  clear hW
  go_wp2_with fail
  refine (Whole_4 W).mono ?_
  rintro e w1 ⟨rfl, hb⟩
  have S1 := Lib.hid (S.out.bel hb)
  clear hb S
  obtain ⟨hx6, hf6, hz6⟩ := (S1.out.box (k := 0) rfl).facts
  go_wp2_with fail
  have SF := (S1.out.setBox2 (u := .int .i64 2) (v := .int .i64 3) (k := 0) rfl).alloc1 (c1 := #[.int .i64 2, .int .i64 3]) (t1 := 23)
  (try simp only [Exit.inBlock, Exit.then])
  exact bodyPost_ret (results_cell2 Tryd.results72 _ _ _ 23 _ _ rfl (SF.box (k := 1) rfl) Tryd.underlying23 rfl region_size) rfl ⟨rfl, SF.base⟩
set_option maxHeartbeats 2000000 in
theorem of_2 (w : World) : Calls Tryd.prog 44 #[.int .i64 4, .int .i64 3, .int .i64 9, .agg #[.int .i64 2, .int .i64 3], .int .i64 0] w fun e w' => e = .returned (.bool true) ∧ Below w.heap.size w w' := by
  go_enter Tryd.func44, Tryd.ntmps44
  go_upto_region 1 with (fail)
  refine at_objsC (objs_start w).alloc1 (fun W hW => ?_)
  have S := Lib.hid hW
  clear hW
  go_wp2_with fail
  refine (Of_2 W).mono ?_
  rintro e w1 ⟨rfl, hb⟩
  have S1 := Lib.hid (S.out.bel hb)
  clear hb S
  obtain ⟨hx6, hf6, hz6⟩ := (S1.out.box (k := 0) rfl).facts
  go_wp2_with fail
  go_ret
  exact ⟨rfl, S1.out.alloc1.base⟩
set_option maxHeartbeats 2000000 in
theorem Of_3 (w : World) : Calls Tryd.prog 72 #[.int .i64 4, .int .i64 3, .int .i64 3] w fun e w' => e = .returned (.tuple #[.agg #[.int .i64 0, .int .i64 0], .int .i64 3]) ∧ Below w.heap.size w w' := by
  go_enter Tryd.func72, Tryd.ntmps72
  go_upto_region 1 with (fail)
  refine at_objsC (objs_start w).alloc1 (fun W hW => ?_)
  generalize hb6 : w.heap.size = b6 at hW ⊢
  rw [← hb6]
  have S := Lib.hid hW
  clear hW
  go_wp2_with fail
  refine (Whole_4 W).mono ?_
  rintro e w1 ⟨rfl, hb⟩
  have S1 := Lib.hid (S.out.bel hb)
  clear hb S
  obtain ⟨hx6, hf6, hz6⟩ := (S1.out.box (k := 0) rfl).facts
  go_wp2_with fail
  have SF := (S1.out.setBox2 (u := .int .i64 0) (v := .int .i64 0) (k := 0) rfl).alloc1 (c1 := #[.int .i64 2, .int .i64 2]) (t1 := 23)
  (try simp only [Exit.inBlock, Exit.then])
  exact bodyPost_ret (results_cell2 Tryd.results72 _ _ _ 23 _ _ rfl (SF.box (k := 1) rfl) Tryd.underlying23 rfl region_size) rfl ⟨rfl, SF.base⟩
set_option maxHeartbeats 2000000 in
theorem of_3 (w : World) : Calls Tryd.prog 44 #[.int .i64 4, .int .i64 3, .int .i64 3, .agg #[.int .i64 0, .int .i64 0], .int .i64 3] w fun e w' => e = .returned (.bool true) ∧ Below w.heap.size w w' := by
  go_enter Tryd.func44, Tryd.ntmps44
  go_upto_region 1 with (fail)
  refine at_objsC (objs_start w).alloc1 (fun W hW => ?_)
  have S := Lib.hid hW
  clear hW
  go_wp2_with fail
  refine (Of_3 W).mono ?_
  rintro e w1 ⟨rfl, hb⟩
  have S1 := Lib.hid (S.out.bel hb)
  clear hb S
  obtain ⟨hx6, hf6, hz6⟩ := (S1.out.box (k := 0) rfl).facts
  go_wp2_with fail
  go_ret
  exact ⟨rfl, S1.out.alloc1.base⟩
set_option maxHeartbeats 2000000 in
theorem Of_4 (w : World) : Calls Tryd.prog 72 #[.int .i64 1, .int .i64 1, .int .i64 1] w fun e w' => e = .returned (.tuple #[.agg #[.int .i64 0, .int .i64 0], .int .i64 0]) ∧ Below w.heap.size w w' := by
  go_enter Tryd.func72, Tryd.ntmps72
  go_upto_region 1 with (fail)
  refine at_objsC (objs_start w).alloc1 (fun W hW => ?_)
  generalize hb6 : w.heap.size = b6 at hW ⊢
  rw [← hb6]
  have S := Lib.hid hW
  clear hW
  go_wp2_with fail
  refine (Whole_1 W).mono ?_
  rintro e w1 ⟨rfl, hb⟩
  have S1 := Lib.hid (S.out.bel hb)
  clear hb S
  obtain ⟨hx6, hf6, hz6⟩ := (S1.out.box (k := 0) rfl).facts
  go_wp2_with fail
  have SF := (S1.out.setBox2 (u := .int .i64 0) (v := .int .i64 0) (k := 0) rfl).alloc1 (c1 := #[.int .i64 0, .int .i64 0]) (t1 := 23)
  (try simp only [Exit.inBlock, Exit.then])
  exact bodyPost_ret (results_cell2 Tryd.results72 _ _ _ 23 _ _ rfl (SF.box (k := 1) rfl) Tryd.underlying23 rfl region_size) rfl ⟨rfl, SF.base⟩
set_option maxHeartbeats 2000000 in
theorem of_4 (w : World) : Calls Tryd.prog 44 #[.int .i64 1, .int .i64 1, .int .i64 1, .agg #[.int .i64 0, .int .i64 0], .int .i64 0] w fun e w' => e = .returned (.bool true) ∧ Below w.heap.size w w' := by
  go_enter Tryd.func44, Tryd.ntmps44
  go_upto_region 1 with (fail)
  refine at_objsC (objs_start w).alloc1 (fun W hW => ?_)
  have S := Lib.hid hW
  clear hW
  go_wp2_with fail
  refine (Of_4 W).mono ?_
  rintro e w1 ⟨rfl, hb⟩
  have S1 := Lib.hid (S.out.bel hb)
  clear hb S
  obtain ⟨hx6, hf6, hz6⟩ := (S1.out.box (k := 0) rfl).facts
  go_wp2_with fail
  go_ret
  exact ⟨rfl, S1.out.alloc1.base⟩
set_option maxHeartbeats 2000000 in
theorem Of_5 (w : World) : Calls Tryd.prog 72 #[.int .i64 0, .int .i64 1, .int .i64 1] w fun e w' => e = .returned (.tuple #[.agg #[.int .i64 0, .int .i64 0], .int .i64 2]) ∧ Below w.heap.size w w' := by
  go_enter Tryd.func72, Tryd.ntmps72
  go_upto_region 1 with (fail)
  refine at_objsC (objs_start w).alloc1 (fun W hW => ?_)
  generalize hb6 : w.heap.size = b6 at hW ⊢
  rw [← hb6]
  have S := Lib.hid hW
  clear hW
  go_wp2_with fail
  refine (Whole_0 W).mono ?_
  rintro e w1 ⟨rfl, hb⟩
  have S1 := Lib.hid (S.out.bel hb)
  clear hb S
  obtain ⟨hx6, hf6, hz6⟩ := (S1.out.box (k := 0) rfl).facts
  go_wp2_with fail
  have SF := (S1.out.setBox2 (u := .int .i64 0) (v := .int .i64 0) (k := 0) rfl).alloc1 (c1 := #[.int .i64 0, .int .i64 0]) (t1 := 23)
  (try simp only [Exit.inBlock, Exit.then])
  exact bodyPost_ret (results_cell2 Tryd.results72 _ _ _ 23 _ _ rfl (SF.box (k := 1) rfl) Tryd.underlying23 rfl region_size) rfl ⟨rfl, SF.base⟩
set_option maxHeartbeats 2000000 in
theorem of_5 (w : World) : Calls Tryd.prog 44 #[.int .i64 0, .int .i64 1, .int .i64 1, .agg #[.int .i64 0, .int .i64 0], .int .i64 2] w fun e w' => e = .returned (.bool true) ∧ Below w.heap.size w w' := by
  go_enter Tryd.func44, Tryd.ntmps44
  go_upto_region 1 with (fail)
  refine at_objsC (objs_start w).alloc1 (fun W hW => ?_)
  have S := Lib.hid hW
  clear hW
  go_wp2_with fail
  refine (Of_5 W).mono ?_
  rintro e w1 ⟨rfl, hb⟩
  have S1 := Lib.hid (S.out.bel hb)
  clear hb S
  obtain ⟨hx6, hf6, hz6⟩ := (S1.out.box (k := 0) rfl).facts
  go_wp2_with fail
  go_ret
  exact ⟨rfl, S1.out.alloc1.base⟩
def firstB (b : UInt8) (L : List Ln) (i : Nat) : Bool := match L[i]? with | some l => (match l.1[0]? with | some x => decide (x.rune = if b = 46 then 0 else (b.toNat : Int)) && decide (x.width = 1) | none => false) | none => false
theorem firstB_is {b : UInt8} {L : List Ln} {i : Nat} (h : firstB b L i = true) : ∃ l x, L[i]? = some l ∧ l.1[0]? = some x ∧ (x.rune = if b = 46 then 0 else (b.toNat : Int)) ∧ x.width = 1 := by
  unfold firstB at h
  split at h
  · next l hl =>
    split at h
    · next x hx => simp only [Bool.and_eq_true, decide_eq_true_eq] at h; exact ⟨l, x, hl, hx, h.1, h.2⟩
    · cases h
  · cases h
theorem wantAt9 {bs : List UInt8} {want : ByteArray} (h : want = ⟨bs.toArray⟩) {m : Nat} (hm : m < want.size) (hb : m < bs.length) : want[m]'hm = bs[m] := by
  subst h
  show (bs.toArray)[m]'_ = _
  simp
section
variable {w0 w : World} {os : List Ob} {k p cols : Nat} {L : List Ln}
set_option maxHeartbeats 2000000 in
theorem l19rowed_yes (bs : List UInt8) (want : ByteArray) (hwant : want = ⟨bs.toArray⟩) (hS : Objs w0 w os) (hk : os[k]? = some (.grid p 37 cols L)) (hc : 0 < cols) (hbs : bs.length ≤ 1000) (hrow : ∀ i (h : i < bs.length), firstB bs[i] L i = true) :
    Calls Tryd.prog 46 #[.pointer (some ⟨p, 0, none⟩), .string want] w fun e w' => e = .returned (.bool true) ∧ Objs w0 w' os := by
  have S := Lib.hid hS
  have HK := Lib.hid hk
  have HROW := Lib.hid hrow
  have hwl : want.size = bs.length := by rw [hwant]; simp [ByteArray.size]
  have HWL := Lib.hid hwl
  have HWANT := Lib.hid hwant
  clear hwl hwant hS hk hrow
  go_enter Tryd.func46, Tryd.ntmps46
  go_wp2_with fail
  go_loopw [5, 6, 7, 8] (fun vi _ _ _ wr => ∃ m : Nat, m ≤ bs.length ∧ vi = .int .i64 m ∧ Objs w0 wr os) (fun vi _ _ _ _ => bs.length - (intOf vi).toNat)
  case atStart => exact ⟨0, Nat.zero_le _, rfl, S.out⟩
  case round =>
    obtain ⟨m, hm, rfl, hS⟩ := hrel
    have S3 := Lib.hid hS
    clear hS S
    by_cases hlt : m < bs.length
    case neg =>
      have hge : ¬ m < want.size := by rw [HWL.out]; exact hlt
      go_wp2_with fail
      go_ret
      exact ⟨rfl, S3.out⟩
    have hlt2 : m < want.size := by rw [HWL.out]; exact hlt
    have hwa := wantAt9 HWANT.out hlt2 hlt
    obtain ⟨l, x, hl, hx0, hru, hwi⟩ := firstB_is (HROW.out m hlt)
    have HL := Lib.hid hl
    have HX0 := Lib.hid hx0
    have hwr : IntKind.i32.wrap ((want[m]'hlt2).toNat : Int) = (bs[m].toNat : Int) := by rw [hwa]; exact IntWalk.i32_in _ (by have := (bs[m]).toNat_lt; omega)
    obtain ⟨rx, hrx⟩ : ∃ r : Int, r = (bs[m].toNat : Int) := ⟨_, rfl⟩
    rw [← hrx] at hwr hru
    have HRX := Lib.hid hrx
    have HRU := Lib.hid hru
    have HWI := Lib.hid hwi
    clear hl hx0 hru hwi hrx hwa
    go_wp2_with fail
    refine (Cell_yes S3.out HK.out hc hc HL.out HX0.out).mono ?_
    rintro e w1 ⟨rfl, hS⟩
    have S4 := Lib.hid hS
    clear hS S3
    go_upto_region 5 with (fail)
    refine at_objsC (S4.out.alloc1 (c1 := cv x) (t1 := 82)) (fun W hW => ?_)
    clear S4
    have S4 := Lib.hid hW
    clear hW
    obtain ⟨hx, hf, hz, hc1, hc2⟩ := (S4.out.box (k := 0) rfl).box
    have hxr : x.rune = _ := HRU.out
    have hxw : x.width = 1 := HWI.out
    by_cases hb : bs[m] = 46
    · have hq : (rx == 46) = true := by rw [HRX.out, hb]; rfl
      rw [if_pos hb] at hxr
      have hrx46 : rx = 46 := by rw [HRX.out, hb]; rfl
      subst hrx46
      clear hq
      go_wp2_with fail
      go_roundw
      case rel => exact ⟨m + 1, by omega, by go_num, S4.out.tail⟩
      case measure => simp [intOf]; omega
    · have hq : (rx == 46) = false := by rw [HRX.out, beq_eq_false_iff_ne]; intro h; exact hb (UInt8.toNat_inj.1 (by have h2 : (46 : UInt8).toNat = 46 := rfl; omega))
      rw [if_neg hb] at hxr
      go_wp2_with fail
      go_roundw
      case rel => exact ⟨m + 1, by omega, by go_num, S4.out.tail⟩
      case measure => simp [intOf]; omega
set_option maxHeartbeats 2000000 in
theorem l19letters_yes {A : Option Addr} {n c : Nat} (bs : List UInt8) (want : ByteArray) (hwant : want = ⟨bs.toArray⟩) (hS : Objs w0 w os) (hk : os[k]? = some (.lines (.slice A n c) L)) (hlen : L.length = bs.length) (hbs : bs.length ≤ 1000) (hrow : ∀ i (h : i < bs.length), firstB bs[i] L i = true) (hd : ∀ i (h : i < bs.length), ¬ bs[i] = 46) (hmill : ∀ l ∈ L, l.1.length ≤ 1000000) :
    Calls Tryd.prog 45 #[.slice A n c, .string want] w fun e w' => e = .returned (.bool true) ∧ Objs w0 w' os := by
  obtain ⟨rfl, -, -⟩ := hS.linesRd' hk
  rw [hlen] at hk ⊢
  have S := Lib.hid hS
  have HK := Lib.hid hk
  have HROW := Lib.hid hrow
  have HD := Lib.hid hd
  have HMI := Lib.hid hmill
  have hwl : want.size = bs.length := by rw [hwant]; simp [ByteArray.size]
  have HWL := Lib.hid hwl
  have HWANT := Lib.hid hwant
  have hsz : ((bs.length : Int) != (want.size : Int)) = false := by rw [hwl]; simp
  clear hwl hwant hS hk hrow hd hmill hlen
  go_enter Tryd.func45, Tryd.ntmps45
  go_wp2_with fail
  go_loopw [5] (fun vi wr => ∃ m : Nat, m ≤ bs.length ∧ vi = .int .i64 m ∧ Objs w0 wr os) (fun vi _ => bs.length - (intOf vi).toNat)
  case atStart => exact ⟨0, Nat.zero_le _, rfl, S.out⟩
  case round =>
    obtain ⟨m, hm, rfl, hS⟩ := hrel
    have S3 := Lib.hid hS
    clear hS S
    by_cases hlt : m < bs.length
    case neg =>
      go_wp2_with fail
      go_ret
      exact ⟨rfl, S3.out⟩
    have hlt2 : m < want.size := by rw [HWL.out]; exact hlt
    have hwa := wantAt9 HWANT.out hlt2 hlt
    obtain ⟨l, x, hl, hx0, hru, hwi⟩ := firstB_is (HROW.out m hlt)
    rw [if_neg (HD.out m hlt)] at hru
    have hwr : IntKind.i32.wrap ((want[m]'hlt2).toNat : Int) = (bs[m].toNat : Int) := by rw [hwa]; exact IntWalk.i32_in _ (by have := (bs[m]).toNat_lt; omega)
    obtain ⟨rx, hrx⟩ : ∃ r : Int, r = (bs[m].toNat : Int) := ⟨_, rfl⟩
    rw [← hrx] at hwr hru
    have hl1 : 0 < l.1.length := (List.getElem?_eq_some_iff.1 hx0).1
    have hmi := HMI.out l (List.mem_of_getElem? hl)
    have dl : decide ((l.1.length : Int) < 1) = false := decide_eq_false (by omega)
    have dl0 : ¬ l.1.length = 0 := by omega
    have hrl := (S3.out.linesRd' (A := A) HK.out).2.2
    obtain ⟨b9, o9, A1, c1, rfl, hzl, hcl1, hcl2, hrd1⟩ := hrl.at_ hl
    obtain ⟨bb1, oo1, rfl, hz1, hr1⟩ := hrd1.at_ hl1
    have hx1 : l.1[0]'hl1 = x := by have := List.getElem?_eq_getElem hl1; rw [hx0] at this; exact (Option.some.inj this).symm
    have hcx := elem_rune hr1 hl1
    rw [hx1, hru, Nat.zero_mul, Nat.add_zero] at hcx
    clear hrl hrd1 hr1 hl hx0 hx1 hwi hru hrx hwa
    go_upto_region 6 with (fail)
    refine wp_region_below (by kernel_rfl) (by kernel_rfl) ?_
    repeat (go_big_quiet_step (fail))
    refine wpQuiet_nil ?_
    intro w2 hb2
    have S4 := Lib.hid (S3.out.bel hb2)
    clear hb2 hzl hcl1 hcl2 hz1 hcx S3
    go_wp2_with fail
    go_roundw
    case rel => exact ⟨m + 1, by omega, by go_num, S4.out⟩
    case measure => simp [intOf]; omega
end
end Go.Proofs.YtghahanpmcpacaaDoor

/-
  The grids with which a law of the later chapters begins: filled with given cells.
-/
set_option linter.unusedSimpArgs false
set_option linter.unusedVariables false
namespace Go.Proofs.YtghahanpmcpacaaDoor
open Go.RowKit

theorem Objs.nestAll {w0 w w' : World} {os os2 : List Ob} (h : Objs w0 w os) (h2 : Objs w w' os2) : Objs w0 w' (os2 ++ os) := by
  obtain ⟨h1, F, a2, a3, a4, a5⟩ := h
  obtain ⟨hb, G, b2, b3, b4, b5⟩ := h2
  have hlt : ∀ i b, F i b → b < w.heap.size := fun i b hF => by
    rcases Nat.lt_or_ge i os.length with hi | hi
    · exact (a2 i os[i] (by simp [hi])).lt hF
    · exact (a4 i hi b hF).elim
  refine ⟨h1.trans (hb.mono h1.size), fun i => if i < os2.length then G i else F (i - os2.length), fun i o hi => ?_, fun i b hF => ?_, fun i hi b hF => ?_, fun i j b hi hj => ?_⟩
  · by_cases hl : i < os2.length
    · simp only [hl, if_true]
      rw [List.getElem?_append_left hl] at hi
      exact b2 i o hi
    · simp only [hl, if_false]
      rw [List.getElem?_append_right (by omega)] at hi
      exact (a2 _ o hi).chg (Chg.of_below hb noBlk) (fun _ _ hf => hf)
  · simp only at hF
    split at hF
    · have := b3 i b hF; have := h1.size; omega
    · exact a3 _ b hF
  · simp only at hF
    rw [List.length_append] at hi
    rw [if_neg (by omega)] at hF
    exact a4 _ (by omega) b hF
  · simp only at hi hj
    split at hi <;> split at hj
    · exact b5 i j b hi hj
    · have := b3 i b hi; have := hlt _ b hj; omega
    · have := b3 j b hj; have := hlt _ b hi; omega
    · have := a5 _ _ b hi hj; omega
/-- A row is filled: from column col on, with the cells from number n on. -/
def begCells (cols lim : Nat) (fill : List Cell) (row : Nat) : Nat → Nat → Nat → List Ln → Nat × List Ln
  | 0, n, _, L => (n, L)
  | fuel + 1, n, col, L =>
    if col < cols ∧ n < lim then
      if ¬ (cAt fill (n % fill.length)).ok = true ∨ (cAt fill (n % fill.length)).width = 0 ∨ (cols : Int) < col + (cAt fill (n % fill.length)).width then begCells cols lim fill row fuel (n + 1) (col + 1) L
      else begCells cols lim fill row fuel (n + 1) (col + (cAt fill (n % fill.length)).width.toNat) (rowMod row (putC col (cAt fill (n % fill.length))) L)
    else (n, L)
theorem begCells_stop {cols lim : Nat} {fill : List Cell} {row n col : Nat} {L : List Ln} (h : ¬ (col < cols ∧ n < lim)) : begCells cols lim fill row (lim - n) n col L = (n, L) := by
  cases hf : lim - n with
  | zero => rfl
  | succ f => unfold begCells; rw [if_neg h]
theorem begCells_skip {cols lim : Nat} {fill : List Cell} {row n col : Nat} {L : List Ln} {y : Cell} (hy : cAt fill (n % fill.length) = y) (h1 : col < cols) (h2 : n < lim) (h : ¬ y.ok = true ∨ y.width = 0 ∨ (cols : Int) < col + y.width) :
    begCells cols lim fill row (lim - n) n col L = begCells cols lim fill row (lim - (n + 1)) (n + 1) (col + 1) L := by
  rw [show lim - n = (lim - (n + 1)) + 1 by omega]
  conv => lhs; unfold begCells
  rw [if_pos ⟨h1, h2⟩, hy, if_pos h]
theorem begCells_put {cols lim : Nat} {fill : List Cell} {row n col : Nat} {L : List Ln} {y : Cell} (hy : cAt fill (n % fill.length) = y) (h1 : col < cols) (h2 : n < lim) (h : ¬ (¬ y.ok = true ∨ y.width = 0 ∨ (cols : Int) < col + y.width)) :
    begCells cols lim fill row (lim - n) n col L = begCells cols lim fill row (lim - (n + 1)) (n + 1) (col + y.width.toNat) (rowMod row (putC col y) L) := by
  rw [show lim - n = (lim - (n + 1)) + 1 by omega]
  conv => lhs; unfold begCells
  rw [if_pos ⟨h1, h2⟩, hy, if_neg h]
/-- Whether a row is soft, by the bits of a number. -/
def softB (soft : Int) (row : Nat) : Bool := (soft / 2 ^ (row % 16)).tmod 2 == 1
/-- All rows are filled; k of them are left. -/
def begRows (rows cols lim : Nat) (fill : List Cell) (soft : Int) : Nat → Nat → List Ln → List Ln
  | 0, _, L => L
  | k + 1, n, L => begRows rows cols lim fill soft k (begCells cols lim fill (rows - (k + 1)) (lim - n) n 0 L).1 (softMod (rows - (k + 1)) (softB soft (rows - (k + 1))) (begCells cols lim fill (rows - (k + 1)) (lim - n) n 0 L).2)
def begunP (rows cols : Nat) (fill : List Cell) (soft : Int) : List Ln := begRows rows cols (fill.length * rows * cols) fill soft rows 0 (List.replicate rows (List.replicate cols (blank pen0), false))
theorem begRows_step {rows cols lim : Nat} {fill : List Cell} {soft : Int} {row n : Nat} {L : List Ln} {r : Nat × List Ln} (h : row < rows) (hr : begCells cols lim fill row (lim - n) n 0 L = r) :
    begRows rows cols lim fill soft (rows - row) n L = begRows rows cols lim fill soft (rows - (row + 1)) r.1 (softMod row (softB soft row) r.2) := by
  rw [show rows - row = (rows - (row + 1)) + 1 by omega]
  conv => lhs; unfold begRows
  rw [show rows - (rows - (row + 1) + 1) = row by omega, hr]
theorem begCells_rect {cols lim : Nat} {fill : List Cell} {row : Nat} (fuel n col : Nat) {L : List Ln} (hR : Rect cols L) : Rect cols (begCells cols lim fill row fuel n col L).2 ∧ (begCells cols lim fill row fuel n col L).2.length = L.length := by
  induction fuel generalizing n col L with
  | zero => exact ⟨hR, rfl⟩
  | succ f ih =>
    unfold begCells
    split
    · split
      · exact ih _ _ hR
      · have := ih (n + 1) (col + (cAt fill (n % fill.length)).width.toNat) (hR.rowMod row (f := putC col (cAt fill (n % fill.length))) (fun cs h => by rw [putC_length, h]))
        rwa [rowMod_length] at this
    · exact ⟨hR, rfl⟩
theorem begRows_rect {rows cols lim : Nat} {fill : List Cell} {soft : Int} (k n : Nat) {L : List Ln} (hR : Rect cols L) : Rect cols (begRows rows cols lim fill soft k n L) ∧ (begRows rows cols lim fill soft k n L).length = L.length := by
  induction k generalizing n L with
  | zero => exact ⟨hR, rfl⟩
  | succ k ih =>
    unfold begRows
    have h1 := begCells_rect (cols := cols) (lim := lim) (fill := fill) (row := rows - (k + 1)) (lim - n) n 0 hR
    have h2 := ih (begCells cols lim fill (rows - (k + 1)) (lim - n) n 0 L).1 (h1.1.softMod (rows - (k + 1)) (softB soft (rows - (k + 1))))
    rw [softMod_length, h1.2] at h2
    exact h2
theorem rect_new (rows cols : Nat) (p : Pen) : Rect cols (List.replicate rows (List.replicate cols (blank p), false)) := fun l hl => by rw [(List.mem_replicate.1 hl).2]; simp
theorem begunP_rect (rows cols : Nat) (fill : List Cell) (soft : Int) : Rect cols (begunP rows cols fill soft) ∧ (begunP rows cols fill soft).length = rows := by
  have := begRows_rect (rows := rows) (cols := cols) (lim := fill.length * rows * cols) (fill := fill) (soft := soft) rows 0 (rect_new rows cols pen0)
  rw [List.length_replicate] at this
  exact this
end Go.Proofs.YtghahanpmcpacaaDoor

/-
  The law's known of chapter 19: the examples of the chapter.
-/
set_option linter.unusedSimpArgs false
set_option linter.unusedVariables false
namespace Go.Proofs.YtghahanpmcpacaaDoor
open Go.RowKit

def letter9 (m : Nat) : Cell := ⟨97 + (m : Int), 0, 0, 0, 1, pen0⟩
theorem letter9_ok {m : Nat} (h : m < 4) : (letter9 m).ok = true := by
  have h4 : m = 0 ∨ m = 1 ∨ m = 2 ∨ m = 3 := by omega
  rcases h4 with rfl | rfl | rfl | rfl <;> decide +kernel
def putN : Nat → List Ln
  | 0 => List.replicate 4 (List.replicate 2 (blank pen0), false)
  | m + 1 => rowMod m (putC 0 (letter9 m)) (putN m)
theorem putN_rect (m : Nat) : Rect 2 (putN m) ∧ (putN m).length = 4 := by
  induction m with
  | zero => exact ⟨rect_new 4 2 pen0, by simp [putN]⟩
  | succ m ih => exact ⟨ih.1.rowMod m (f := putC 0 (letter9 m)) (fun cs h => by rw [putC_length, h]), by show (rowMod m _ (putN m)).length = 4; rw [rowMod_length, ih.2]⟩
def tupAt (i : Nat) (v : Value) : Value := match v with | .tuple a => (a[i]?).getD undef | _ => undef
def k19_0 : List Ln := putN 4
def k19_1 : List Ln := rollL 0 2 1 pen0 2 k19_0
def g19_0 : List Ln := upL 0 2 1 k19_0
def k19_2 : List Ln := rollL 1 2 1 pen0 2 k19_1
def g19_1 : List Ln := upL 1 2 1 k19_1
def k19_3 : List Ln := ixL 0 3 3 pen0 2 k19_2
def g19_2 : List Ln := ixGone 0 3 3 k19_2
def k19_4 : List Ln := rvL 1 3 1 pen0 2 k19_3
def k19_5 : List Ln := rvL 1 3 0 pen0 2 k19_4
def k19_6 : List Ln := ixL 0 1 3 pen0 2 k19_5
def g19_5 : List Ln := ixGone 0 1 3 k19_5
theorem k19_len0 : k19_0.length = 4 := by kernel_rfl
theorem k19_len1 : k19_1.length = 4 := by kernel_rfl
theorem k19_len2 : k19_2.length = 4 := by kernel_rfl
theorem k19_len3 : k19_3.length = 4 := by kernel_rfl
theorem k19_len4 : k19_4.length = 4 := by kernel_rfl
theorem k19_len5 : k19_5.length = 4 := by kernel_rfl
theorem k19_len6 : k19_6.length = 4 := by kernel_rfl
section
variable {w0 w : World} {os : List Ob} {k p : Nat}
theorem kc13 (hT : Tabs w0) (hS : Objs w0 w os) (hk : os[k]? = some (.grid p 37 2 k19_0)) :
    Calls Tryd.prog 12 #[.pointer (some ⟨p, 0, none⟩), .agg #[.int .i64 0, .int .i64 2], .int .i64 1, .agg (pv pen0)] w fun e w' => ∃ A m c, e = .returned (.tuple #[.slice A m c, .int .i64 0]) ∧ Objs w0 w' (.lines (.slice A m c) g19_0 :: os.set k (.grid p 37 2 k19_1)) :=
  Up_yes (top := 0) (bot := 2) (n := 1) pen0 hT hS hk (by decide) (by decide) (by rw [k19_len0]; decide) (by decide) (by rw [k19_len0]; decide) (by decide +kernel) (by decide)
theorem kc16 (hT : Tabs w0) (hS : Objs w0 w os) (hk : os[k]? = some (.grid p 37 2 k19_1)) :
    Calls Tryd.prog 12 #[.pointer (some ⟨p, 0, none⟩), .agg #[.int .i64 1, .int .i64 2], .int .i64 1, .agg (pv pen0)] w fun e w' => ∃ A m c, e = .returned (.tuple #[.slice A m c, .int .i64 0]) ∧ Objs w0 w' (.lines (.slice A m c) g19_1 :: os.set k (.grid p 37 2 k19_2)) :=
  Up_yes (top := 1) (bot := 2) (n := 1) pen0 hT hS hk (by decide) (by decide) (by rw [k19_len1]; decide) (by decide) (by rw [k19_len1]; decide) (by decide +kernel) (by decide)
theorem kc19 (hT : Tabs w0) (hS : Objs w0 w os) (hk : os[k]? = some (.grid p 37 2 k19_2)) :
    Calls Tryd.prog 13 #[.pointer (some ⟨p, 0, none⟩), .agg #[.int .i64 0, .int .i64 3], .agg #[.int .i64 3, .int .i64 1, .bool true], .agg (pv pen0)] w fun e w' => ∃ A m c, e = .returned (.tuple #[.agg #[.int .i64 3, .int .i64 1, .bool false], .slice A m c, .int .i64 0]) ∧ Objs w0 w' (.lines (.slice A m c) g19_2 :: os.set k (.grid p 37 2 k19_3)) := by
  have h := Index_yes (top := 0) (bot := 3) (row := 3) (col := 1) (pend := true) pen0 hT hS hk (by decide) (by rw [k19_len2]; decide) (by decide) (by rw [k19_len2]; decide) (by decide +kernel) (by rw [k19_len2]; decide +kernel)
  rw [k19_len2] at h
  exact h
theorem kc22 (hT : Tabs w0) (hS : Objs w0 w os) (hk : os[k]? = some (.grid p 37 2 k19_3)) :
    Calls Tryd.prog 14 #[.pointer (some ⟨p, 0, none⟩), .agg #[.int .i64 1, .int .i64 3], .agg #[.int .i64 1, .int .i64 0, .bool false], .agg (pv pen0)] w fun e w' => e = .returned (.tuple #[.agg #[.int .i64 1, .int .i64 0, .bool false], .int .i64 0]) ∧ Objs w0 w' (os.set k (.grid p 37 2 k19_4)) :=
  Reverse_yes (top := 1) (bot := 3) (row := 1) (col := 0) (pend := false) pen0 hT hS hk (by decide) (by rw [k19_len3]; decide) (by decide) (by rw [k19_len3]; decide) (by decide +kernel) (by rw [k19_len3]; decide +kernel)
theorem kc25 (hT : Tabs w0) (hS : Objs w0 w os) (hk : os[k]? = some (.grid p 37 2 k19_4)) :
    Calls Tryd.prog 14 #[.pointer (some ⟨p, 0, none⟩), .agg #[.int .i64 1, .int .i64 3], .agg #[.int .i64 0, .int .i64 0, .bool false], .agg (pv pen0)] w fun e w' => e = .returned (.tuple #[.agg #[.int .i64 0, .int .i64 0, .bool false], .int .i64 0]) ∧ Objs w0 w' (os.set k (.grid p 37 2 k19_5)) :=
  Reverse_yes (top := 1) (bot := 3) (row := 0) (col := 0) (pend := false) pen0 hT hS hk (by decide) (by rw [k19_len4]; decide) (by decide) (by rw [k19_len4]; decide) (by decide +kernel) (by rw [k19_len4]; decide +kernel)
theorem kc26 (hT : Tabs w0) (hS : Objs w0 w os) (hk : os[k]? = some (.grid p 37 2 k19_5)) :
    Calls Tryd.prog 13 #[.pointer (some ⟨p, 0, none⟩), .agg #[.int .i64 0, .int .i64 1], .agg #[.int .i64 3, .int .i64 0, .bool false], .agg (pv pen0)] w fun e w' => ∃ A m c, e = .returned (.tuple #[.agg #[.int .i64 3, .int .i64 0, .bool false], .slice A m c, .int .i64 0]) ∧ Objs w0 w' (.lines (.slice A m c) g19_5 :: os.set k (.grid p 37 2 k19_6)) := by
  have h := Index_yes (top := 0) (bot := 1) (row := 3) (col := 0) (pend := false) pen0 hT hS hk (by decide) (by rw [k19_len5]; decide) (by decide) (by rw [k19_len5]; decide) (by decide +kernel) (by rw [k19_len5]; decide +kernel)
  rw [k19_len5] at h
  exact h
theorem kc27 (hT : Tabs w0) (hS : Objs w0 w os) (hk : os[k]? = some (.grid p 37 2 k19_6)) :
    Calls Tryd.prog 12 #[.pointer (some ⟨p, 0, none⟩), .agg #[.int .i64 0, .int .i64 4], .int .i64 1, .agg (pv pen0)] w fun e w' => e = .returned (.tuple #[.slice none 0 0, .int .i64 2]) ∧ Objs w0 w' os :=
  Up_no (top := 0) (bot := 4) (n := 1) pen0 hT hS hk (by decide) (by rw [k19_len6]; decide) (by rw [k19_len6]; decide +kernel) (by decide)
end
set_option maxRecDepth 100000 in
set_option maxHeartbeats 16000000 in
theorem l19known_any (w : World) (hT : Tabs w) : Calls Tryd.prog 16 #[] w fun e w' => e = .returned (.bool true) ∧ Below w.heap.size w w' := by
  have HT := Lib.hid hT
  clear hT
  go_enter Tryd.func16, Tryd.ntmps16
  go_wp2_with fail
  refine (show Calls Tryd.prog 40 #[.int .i64 4, .int .i64 2] _ _ from gridNew_yes 4 2 (by decide) (by decide) (by decide) (by decide) w w [] (objs_start w)).mono ?_
  rintro e w1 ⟨p, rfl, hS⟩
  have S := Lib.hid (show Objs w w1 [.grid p 37 2 (putN 0)] from hS)
  clear hS
  go_wp2_with fail
  go_loopw [0, 3] (fun _ vi wr => ∃ m : Nat, m ≤ 4 ∧ vi = .int .i64 m ∧ Objs w wr [.grid p 37 2 (putN m)]) (fun _ vi _ => 4 - (intOf vi).toNat)
  case atStart => exact ⟨0, by omega, rfl, S.out⟩
  case round =>
    obtain ⟨m, hm, rfl, hS⟩ := hrel
    have S3 := Lib.hid hS
    clear hS S
    by_cases hlt : m < 4
    case pos =>
      have hd : decide ((m : Int) < 4) = true := decide_eq_true (by omega)
      have hw1 : IntKind.i64.wrap (97 + (m : Int)) = 97 + (m : Int) := IntWalk.i64_in _ (by omega)
      have hw2 : IntKind.i32.wrap (97 + (m : Int)) = 97 + (m : Int) := IntWalk.i32_in _ (by omega)
      go_wp2_with fail
      refine (show Calls Tryd.prog 41 #[.pointer (some ⟨p, 0, none⟩), .int .i64 m, .int .i64 0, .agg (cv (letter9 m))] _ _ from (PutG (j := 0) (letter9 m) HT.out S3.out (k := 0) rfl (by decide) (putN_rect m).1 (by rw [(putN_rect m).2]; exact hlt) (letter9_ok hlt) (by simp [letter9]) (by simp [letter9]))).mono ?_
      rintro e w2 ⟨rfl, hS⟩
      have S4 := Lib.hid (show Objs w w2 [.grid p 37 2 (putN (m + 1))] from hS)
      clear hS S3
      go_wp2_with fail
      go_roundw
      case rel => exact ⟨m + 1, by omega, by go_num, S4.out⟩
      case measure => simp [intOf]; omega
    obtain rfl : m = 4 := by omega
    have S4 := Lib.hid (show Objs w _ [.grid p 37 2 k19_0] from S3.out)
    clear S3
    go_upto_region 10 with (fail)
    refine at_objsC (S4.out.alloc1 (c1 := pv pen0) (t1 := 31)) (fun W hW => ?_)
    generalize hb4 : wr.heap.size = b4 at hW ⊢
    clear hb4 S4
    have S5 := Lib.hid hW
    clear hW
    go_wp2_with fail
    refine (Whole_4 W).mono ?_
    rintro e w3 ⟨rfl, hb⟩
    have S6 := Lib.hid (S5.out.bel hb)
    clear hb S5
    go_upto_region 11 with (fail)
    refine at_objsC (S6.out.alloc1 (c1 := #[.int .i64 0, .int .i64 3]) (t1 := 23)) (fun W5 hW => ?_)
    generalize hb5 : w3.heap.size = b5 at hW ⊢
    clear hb5 S6
    have S7 := Lib.hid hW
    obtain ⟨hx5, hf5, hz5⟩ := (hW.box (k := 0) rfl).facts
    clear hW
    have hr4 : regB 4 1 4 = false := by decide
    have hr3 : regB 4 1 3 = true := by decide
    refine wp_region_below (by kernel_rfl) (by kernel_rfl) ?_
    repeat (go_big_quiet_step ((go_at_call 43; exact quiet_below (l19to_any _ _ _))))
    go_big_quiet_step ((go_at_call 44; exact quiet_below (of_0 _)))
    repeat (go_big_quiet_step ((go_at_call 43; exact quiet_below (l19to_any _ _ _))))
    go_big_quiet_step ((go_at_call 44; exact quiet_below (of_1 _)))
    repeat (go_big_quiet_step ((go_at_call 43; exact quiet_below (l19to_any _ _ _))))
    go_big_quiet_step ((go_at_call 44; exact quiet_below (of_2 _)))
    repeat (go_big_quiet_step ((go_at_call 43; exact quiet_below (l19to_any _ _ _))))
    go_big_quiet_step ((go_at_call 44; exact quiet_below (of_3 _)))
    repeat (go_big_quiet_step ((go_at_call 43; exact quiet_below (l19to_any _ _ _))))
    go_big_quiet_step ((go_at_call 44; exact quiet_below (of_4 _)))
    repeat (go_big_quiet_step ((go_at_call 43; exact quiet_below (l19to_any _ _ _))))
    go_big_quiet_step ((go_at_call 44; exact quiet_below (of_5 _)))
    repeat (go_big_quiet_step ((go_at_call 43; exact quiet_below (l19to_any _ _ _))))
    go_big_quiet_step ((go_at_call 34; exact quiet_below (Right_is hr4 _)))
    repeat (go_big_quiet_step ((go_at_call 43; exact quiet_below (l19to_any _ _ _))))
    go_big_quiet_step ((go_at_call 34; exact quiet_below (Right_is hr3 _)))
    repeat (go_big_quiet_step ((go_at_call 43; exact quiet_below (l19to_any _ _ _))))
    refine wpQuiet_nil ?_
    intro w6 hb6
    have S8 := Lib.hid (S7.out.bel hb6).tail
    clear hb6 hx5 hf5 hz5 S7
    have SZ := Lib.hid S8.out.pad
    clear S8
    go_upto_region 13 with (fail)
    refine wp_region_stage (w0 := w) (os := []) (by kernel_rfl) (by kernel_rfl) (by kernel_rfl) [(2, 3, [], fun vs => .grid p 37 2 k19_1), (0, 3, [3], fun vs => .lines (tupAt 0 (vs 3)) g19_0), (0, 4, [4], fun vs => .lines (tupAt 0 (vs 4)) g19_0), (0, 5, [5], fun vs => .lines (vs 5) g19_0), (0, 7, [7], fun vs => .lines (vs 7) g19_0)] [[], [], [1], [0, 2], [0], [0], [], [0], []] [.none, .box b4 31 (pv pen0), .grid p 37 2 k19_0] (fun i u => match i with | 0 => u = (.pointer (some ⟨p, 0, none⟩) : Value) | 1 => u = (.agg #[.int .i64 0, .int .i64 2] : Value) | 2 => u = (.agg (pv pen0) : Value) | 3 => ∃ A m c, u = (.tuple #[.slice A m c, .int .i64 0] : Value) | 4 => ∃ A m c, u = (.tuple #[.slice A m c, .int .i64 0] : Value) | 5 => ∃ A m c, u = .slice A m c | 6 => u = (.int .i64 0 : Value) | 7 => ∃ A m c, u = .slice A m c | 8 => u = (.int .i64 0 : Value) | _ => True) (fun vs => [.lines (vs 7) g19_0, .box b4 31 (pv pen0), .grid p 37 2 k19_1]) (by kernel_rfl) (fun vs => by rfl) SZ.out ?_ ?_
    · refine SSteps.cons (fun a w' vs σ hS hl hs hk => ?_) ?_
      · have e1 : a.tmps.getD 1 undef = (.pointer (some ⟨p, 0, none⟩) : Value) := (sk_old hk 1 (by kernel_rfl)).trans rfl
        have f1 := gd e1
        exact ro_pure (v := .pointer (some ⟨p, 0, none⟩)) (wanted_none rfl) (by simp [execOp, Act.eval, e1, f1, go_sem]) (sp_same (by kernel_rfl) hl hs hS (show (.pointer (some ⟨p, 0, none⟩) : Value) = _ from rfl)) trivial
      refine SSteps.cons (fun a w' vs σ hS hl hs hk => ?_) ?_
      · exact ro_call (f := 43) (wanted_none rfl) rfl (by simp only [List.map_toArray, List.map_cons, List.map_nil, Act.eval] <;> rfl) (fun _ _ => by kernel_rfl) ((l19to_any 0 2 w').mono fun e w2 ⟨h1, h2⟩ => ⟨_, h1, sp_same (by kernel_rfl) hl hs (hS.bel h2) rfl, trivial⟩)
      refine SSteps.cons (fun a w' vs σ hS hl hs hk => ?_) ?_
      · have e4 : a.tmps.getD 4 undef = (.pointer (some ⟨b4, 0, none⟩) : Value) := (sk_old hk 4 (by kernel_rfl)).trans rfl
        have f4 := gd e4
        have hx := (hS.box (sg (hs 1 (by decide)))).penAt
        exact ro_pure (v := .agg (pv pen0)) (wanted_none rfl) (by simp [execOp, Act.eval, e4, f4, go_sem, hx]) (sp_same (by kernel_rfl) hl hs hS (show (.agg (pv pen0) : Value) = _ from rfl)) trivial
      refine SSteps.cons (fun a w' vs σ hS hl hs hk => ?_) ?_
      · have e86 : a.tmps.getD 86 undef = (.pointer (some ⟨p, 0, none⟩) : Value) := (sk_val hk 0 (by kernel_rfl) rfl rfl).trans ((hk.1 0 (by kernel_rfl)).1)
        have f86 := gd e86
        have e87 : a.tmps.getD 87 undef = (.agg #[.int .i64 0, .int .i64 2] : Value) := (sk_val hk 1 (by kernel_rfl) rfl rfl).trans ((hk.1 1 (by kernel_rfl)).1)
        have f87 := gd e87
        have e88 : a.tmps.getD 88 undef = (.agg (pv pen0) : Value) := (sk_val hk 2 (by kernel_rfl) rfl rfl).trans ((hk.1 2 (by kernel_rfl)).1)
        have f88 := gd e88
        have h1 : σ[2]? = some (.grid p 37 2 k19_0) := hs 2 (by decide)
        have hn : σ[0]? = some .none := hs 0 (by decide)
        exact ro_call (f := 12) (wanted_none rfl) rfl (by simp only [List.map_toArray, List.map_cons, List.map_nil, Act.eval, e86, e87, e88] <;> rfl) (fun _ _ => by kernel_rfl) ((kc13 HT.out hS (sg h1)).mono fun e w2 ⟨A9, m9, c9, h2, h3⟩ => ⟨_, h2, sp_set2 2 0 (.grid p 37 2 k19_1) (.lines (.slice A9 m9 c9) g19_0) (by decide) (by kernel_rfl) (by simp) (by simp) (by decide) (by decide) hl hs (by rfl) (by rfl) (h3.place (k := 0) (by rw [List.getElem?_set_ne (by decide)]; exact sg hn)) ⟨A9, m9, c9, rfl⟩, trivial⟩)
      refine SSteps.cons (fun a w' vs σ hS hl hs hk => ?_) ?_
      · have e89 : a.tmps.getD 89 undef = vs 3 := sk_val hk 3 (by kernel_rfl) rfl rfl
        have p89 : (fun u : Value => ∃ A m c, u = (.tuple #[.slice A m c, .int .i64 0] : Value)) (vs 3) := (hk.1 3 (by kernel_rfl)).1
        have f89 := gd e89
        obtain ⟨A9, m9, c9, q9⟩ := p89
        have e9 := e89.trans q9
        have f9 := gd e9
        have h2 : σ[0]? = some (.lines (tupAt 0 (vs 3)) g19_0) := hs 0 (by decide)
        rw [q9, show tupAt 0 (.tuple #[.slice A9 m9 c9, .int .i64 0] : Value) = .slice A9 m9 c9 from rfl] at h2
        have hSS : Objs w w' ((σ ++ []).set 0 (.lines (.slice A9 m9 c9) g19_0)) := by rw [set_self (sg h2)]; exact hS
        exact rs_run (v' := (.tuple #[.slice A9 m9 c9, .int .i64 0] : Value)) (w' := w') (wanted_none rfl) (by simp [execOp, Act.eval, e9, f9, go_sem]) (sp_set 0 (.lines (.slice A9 m9 c9) g19_0) (by kernel_rfl) (by simp) (by decide) hl hs (by rfl) hSS ⟨A9, m9, c9, rfl⟩)
      refine SSteps.cons (fun a w' vs σ hS hl hs hk => ?_) ?_
      · have e85 : a.tmps.getD 85 undef = vs 4 := sk_val hk 4 (by kernel_rfl) rfl rfl
        have p85 : (fun u : Value => ∃ A m c, u = (.tuple #[.slice A m c, .int .i64 0] : Value)) (vs 4) := (hk.1 4 (by kernel_rfl)).1
        have f85 := gd e85
        obtain ⟨A9, m9, c9, q9⟩ := p85
        have e9 := e85.trans q9
        have f9 := gd e9
        have h2 : σ[0]? = some (.lines (tupAt 0 (vs 4)) g19_0) := hs 0 (by decide)
        rw [q9, show tupAt 0 (.tuple #[.slice A9 m9 c9, .int .i64 0] : Value) = .slice A9 m9 c9 from rfl] at h2
        have hSS : Objs w w' ((σ ++ []).set 0 (.lines (.slice A9 m9 c9) g19_0)) := by rw [set_self (sg h2)]; exact hS
        exact rs_run (v' := .slice A9 m9 c9) (w' := w') (wanted_none rfl) (by simp [execOp, Act.eval, e9, f9, go_sem]) (sp_set 0 (.lines (.slice A9 m9 c9) g19_0) (by kernel_rfl) (by simp) (by decide) hl hs (by rfl) hSS ⟨A9, m9, c9, rfl⟩)
      refine SSteps.cons (fun a w' vs σ hS hl hs hk => ?_) ?_
      · have e85 : a.tmps.getD 85 undef = vs 4 := sk_val hk 4 (by kernel_rfl) rfl rfl
        have p85 : (fun u : Value => ∃ A m c, u = (.tuple #[.slice A m c, .int .i64 0] : Value)) (vs 4) := (hk.1 4 (by kernel_rfl)).1
        have f85 := gd e85
        obtain ⟨A9, m9, c9, q9⟩ := p85
        have e9 := e85.trans q9
        have f9 := gd e9
        exact ro_pure (v := .int .i64 0) (wanted_none rfl) (by simp [execOp, Act.eval, e9, f9, go_sem]) (sp_same (by kernel_rfl) hl hs hS rfl) trivial
      refine SSteps.cons (fun a w' vs σ hS hl hs hk => ?_) ?_
      · have e90 : a.tmps.getD 90 undef = vs 5 := sk_val hk 5 (by kernel_rfl) rfl rfl
        have p90 : (fun u : Value => ∃ A m c, u = .slice A m c) (vs 5) := (hk.1 5 (by kernel_rfl)).1
        have f90 := gd e90
        obtain ⟨A9, m9, c9, q9⟩ := p90
        have e9 := e90.trans q9
        have f9 := gd e9
        have h2 : σ[0]? = some (.lines (vs 5) g19_0) := hs 0 (by decide)
        rw [q9] at h2
        have hSS : Objs w w' ((σ ++ []).set 0 (.lines (.slice A9 m9 c9) g19_0)) := by rw [set_self (sg h2)]; exact hS
        exact rs_run (v' := .slice A9 m9 c9) (w' := w') (wanted_none rfl) (by simp [execOp, Act.eval, e9, f9, go_sem]) (sp_set 0 (.lines (.slice A9 m9 c9) g19_0) (by kernel_rfl) (by simp) (by decide) hl hs (by rfl) hSS ⟨A9, m9, c9, rfl⟩)
      refine SSteps.cons (fun a w' vs σ hS hl hs hk => ?_) ?_
      · have e91 : a.tmps.getD 91 undef = (.int .i64 0 : Value) := (sk_val hk 6 (by kernel_rfl) rfl rfl).trans ((hk.1 6 (by kernel_rfl)).1)
        have f91 := gd e91
        exact ro_pure (v := .int .i64 0) (wanted_none rfl) (by simp [execOp, Act.eval, e91, f91, go_sem]) (sp_same (by kernel_rfl) hl hs hS (show (.int .i64 0 : Value) = _ from rfl)) trivial
      exact SSteps.nil
    · intro vs w' hS hv
      have q0 := (show vs 0 = (.pointer (some ⟨p, 0, none⟩) : Value) from hv 0 (by decide))
      have q1 := (show vs 1 = (.agg #[.int .i64 0, .int .i64 2] : Value) from hv 1 (by decide))
      have q2 := (show vs 2 = (.agg (pv pen0) : Value) from hv 2 (by decide))
      have q6 := (show vs 6 = (.int .i64 0 : Value) from hv 6 (by decide))
      have q8 := (show vs 8 = (.int .i64 0 : Value) from hv 8 (by decide))
      obtain ⟨Aa, ma, ca, qa⟩ := (show ∃ A m c, vs 3 = (.tuple #[.slice A m c, .int .i64 0] : Value) from hv 3 (by decide))
      obtain ⟨Ab, mb, cb, qb⟩ := (show ∃ A m c, vs 4 = (.tuple #[.slice A m c, .int .i64 0] : Value) from hv 4 (by decide))
      obtain ⟨Ac, mc, cc, qc⟩ := (show ∃ A m c, vs 5 = .slice A m c from hv 5 (by decide))
      obtain ⟨Ad13, md13, cd13, qd⟩ := (show ∃ A m c, vs 7 = .slice A m c from hv 7 (by decide))
      rw [qd] at hS
      have S2 := Lib.hid hS
      simp only [putL, Act.put, Nat.zero_add, Nat.reduceAdd, List.setIfInBounds_toArray, List.set_cons_succ, List.set_cons_zero, q0, q1, q2, q6, q8]
      clear hS hv q0 q1 q2 q6 q8
      simp only [qa, qb, qc, qd]
      clear qa qb qc qd
      have T1 := Lib.hid (show Objs w w' [.lines (.slice Ad13 md13 cd13) g19_0, .box b4 31 (pv pen0), .grid p 37 2 k19_1] from S2.out)
      clear S2 SZ
      go_wp2_with fail
      refine (show Calls Tryd.prog 45 #[.slice Ad13 md13 cd13, .string ⟨#[97]⟩] _ _ from (l19letters_yes [97] _ rfl T1.out (k := 0) rfl (by kernel_rfl) (by decide) (by decide +kernel) (by decide) (by decide +kernel))).mono ?_
      rintro e wrT2 ⟨rfl, hS⟩
      have T2 := Lib.hid hS
      clear hS T1
      go_wp2_with fail
      refine (show Calls Tryd.prog 46 #[.pointer (some ⟨p, 0, none⟩), .string ⟨#[98, 99, 46, 100]⟩] _ _ from (l19rowed_yes [98, 99, 46, 100] _ rfl T2.out (k := 2) rfl (by decide) (by decide) (by decide +kernel))).mono ?_
      rintro e wrT3 ⟨rfl, hS⟩
      have T3 := Lib.hid hS
      clear hS T2
      have SZ := Lib.hid T3.out.tail.pad
      clear T3
      go_upto_region 16 with (fail)
      refine wp_region_stage (w0 := w) (os := []) (by kernel_rfl) (by kernel_rfl) (by kernel_rfl) [(2, 3, [], fun vs => .grid p 37 2 k19_2), (0, 3, [3], fun vs => .lines (tupAt 0 (vs 3)) g19_1), (0, 4, [4], fun vs => .lines (tupAt 0 (vs 4)) g19_1), (0, 5, [5], fun vs => .lines (vs 5) g19_1), (0, 7, [7], fun vs => .lines (vs 7) g19_1)] [[], [], [1], [0, 2], [0], [0], [], [0], []] [.none, .box b4 31 (pv pen0), .grid p 37 2 k19_1] (fun i u => match i with | 0 => u = (.pointer (some ⟨p, 0, none⟩) : Value) | 1 => u = (.agg #[.int .i64 1, .int .i64 2] : Value) | 2 => u = (.agg (pv pen0) : Value) | 3 => ∃ A m c, u = (.tuple #[.slice A m c, .int .i64 0] : Value) | 4 => ∃ A m c, u = (.tuple #[.slice A m c, .int .i64 0] : Value) | 5 => ∃ A m c, u = .slice A m c | 6 => u = (.int .i64 0 : Value) | 7 => ∃ A m c, u = .slice A m c | 8 => u = (.int .i64 0 : Value) | _ => True) (fun vs => [.lines (vs 7) g19_1, .box b4 31 (pv pen0), .grid p 37 2 k19_2]) (by kernel_rfl) (fun vs => by rfl) SZ.out ?_ ?_
      · refine SSteps.cons (fun a w' vs σ hS hl hs hk => ?_) ?_
        · have e1 : a.tmps.getD 1 undef = (.pointer (some ⟨p, 0, none⟩) : Value) := (sk_old hk 1 (by kernel_rfl)).trans rfl
          have f1 := gd e1
          exact ro_pure (v := .pointer (some ⟨p, 0, none⟩)) (wanted_none rfl) (by simp [execOp, Act.eval, e1, f1, go_sem]) (sp_same (by kernel_rfl) hl hs hS (show (.pointer (some ⟨p, 0, none⟩) : Value) = _ from rfl)) trivial
        refine SSteps.cons (fun a w' vs σ hS hl hs hk => ?_) ?_
        · exact ro_call (f := 43) (wanted_none rfl) rfl (by simp only [List.map_toArray, List.map_cons, List.map_nil, Act.eval] <;> rfl) (fun _ _ => by kernel_rfl) ((l19to_any 1 2 w').mono fun e w2 ⟨h1, h2⟩ => ⟨_, h1, sp_same (by kernel_rfl) hl hs (hS.bel h2) rfl, trivial⟩)
        refine SSteps.cons (fun a w' vs σ hS hl hs hk => ?_) ?_
        · have e4 : a.tmps.getD 4 undef = (.pointer (some ⟨b4, 0, none⟩) : Value) := (sk_old hk 4 (by kernel_rfl)).trans rfl
          have f4 := gd e4
          have hx := (hS.box (sg (hs 1 (by decide)))).penAt
          exact ro_pure (v := .agg (pv pen0)) (wanted_none rfl) (by simp [execOp, Act.eval, e4, f4, go_sem, hx]) (sp_same (by kernel_rfl) hl hs hS (show (.agg (pv pen0) : Value) = _ from rfl)) trivial
        refine SSteps.cons (fun a w' vs σ hS hl hs hk => ?_) ?_
        · have e105 : a.tmps.getD 105 undef = (.pointer (some ⟨p, 0, none⟩) : Value) := (sk_val hk 0 (by kernel_rfl) rfl rfl).trans ((hk.1 0 (by kernel_rfl)).1)
          have f105 := gd e105
          have e106 : a.tmps.getD 106 undef = (.agg #[.int .i64 1, .int .i64 2] : Value) := (sk_val hk 1 (by kernel_rfl) rfl rfl).trans ((hk.1 1 (by kernel_rfl)).1)
          have f106 := gd e106
          have e107 : a.tmps.getD 107 undef = (.agg (pv pen0) : Value) := (sk_val hk 2 (by kernel_rfl) rfl rfl).trans ((hk.1 2 (by kernel_rfl)).1)
          have f107 := gd e107
          have h1 : σ[2]? = some (.grid p 37 2 k19_1) := hs 2 (by decide)
          have hn : σ[0]? = some .none := hs 0 (by decide)
          exact ro_call (f := 12) (wanted_none rfl) rfl (by simp only [List.map_toArray, List.map_cons, List.map_nil, Act.eval, e105, e106, e107] <;> rfl) (fun _ _ => by kernel_rfl) ((kc16 HT.out hS (sg h1)).mono fun e w2 ⟨A9, m9, c9, h2, h3⟩ => ⟨_, h2, sp_set2 2 0 (.grid p 37 2 k19_2) (.lines (.slice A9 m9 c9) g19_1) (by decide) (by kernel_rfl) (by simp) (by simp) (by decide) (by decide) hl hs (by rfl) (by rfl) (h3.place (k := 0) (by rw [List.getElem?_set_ne (by decide)]; exact sg hn)) ⟨A9, m9, c9, rfl⟩, trivial⟩)
        refine SSteps.cons (fun a w' vs σ hS hl hs hk => ?_) ?_
        · have e108 : a.tmps.getD 108 undef = vs 3 := sk_val hk 3 (by kernel_rfl) rfl rfl
          have p108 : (fun u : Value => ∃ A m c, u = (.tuple #[.slice A m c, .int .i64 0] : Value)) (vs 3) := (hk.1 3 (by kernel_rfl)).1
          have f108 := gd e108
          obtain ⟨A9, m9, c9, q9⟩ := p108
          have e9 := e108.trans q9
          have f9 := gd e9
          have h2 : σ[0]? = some (.lines (tupAt 0 (vs 3)) g19_1) := hs 0 (by decide)
          rw [q9, show tupAt 0 (.tuple #[.slice A9 m9 c9, .int .i64 0] : Value) = .slice A9 m9 c9 from rfl] at h2
          have hSS : Objs w w' ((σ ++ []).set 0 (.lines (.slice A9 m9 c9) g19_1)) := by rw [set_self (sg h2)]; exact hS
          exact rs_run (v' := (.tuple #[.slice A9 m9 c9, .int .i64 0] : Value)) (w' := w') (wanted_none rfl) (by simp [execOp, Act.eval, e9, f9, go_sem]) (sp_set 0 (.lines (.slice A9 m9 c9) g19_1) (by kernel_rfl) (by simp) (by decide) hl hs (by rfl) hSS ⟨A9, m9, c9, rfl⟩)
        refine SSteps.cons (fun a w' vs σ hS hl hs hk => ?_) ?_
        · have e104 : a.tmps.getD 104 undef = vs 4 := sk_val hk 4 (by kernel_rfl) rfl rfl
          have p104 : (fun u : Value => ∃ A m c, u = (.tuple #[.slice A m c, .int .i64 0] : Value)) (vs 4) := (hk.1 4 (by kernel_rfl)).1
          have f104 := gd e104
          obtain ⟨A9, m9, c9, q9⟩ := p104
          have e9 := e104.trans q9
          have f9 := gd e9
          have h2 : σ[0]? = some (.lines (tupAt 0 (vs 4)) g19_1) := hs 0 (by decide)
          rw [q9, show tupAt 0 (.tuple #[.slice A9 m9 c9, .int .i64 0] : Value) = .slice A9 m9 c9 from rfl] at h2
          have hSS : Objs w w' ((σ ++ []).set 0 (.lines (.slice A9 m9 c9) g19_1)) := by rw [set_self (sg h2)]; exact hS
          exact rs_run (v' := .slice A9 m9 c9) (w' := w') (wanted_none rfl) (by simp [execOp, Act.eval, e9, f9, go_sem]) (sp_set 0 (.lines (.slice A9 m9 c9) g19_1) (by kernel_rfl) (by simp) (by decide) hl hs (by rfl) hSS ⟨A9, m9, c9, rfl⟩)
        refine SSteps.cons (fun a w' vs σ hS hl hs hk => ?_) ?_
        · have e104 : a.tmps.getD 104 undef = vs 4 := sk_val hk 4 (by kernel_rfl) rfl rfl
          have p104 : (fun u : Value => ∃ A m c, u = (.tuple #[.slice A m c, .int .i64 0] : Value)) (vs 4) := (hk.1 4 (by kernel_rfl)).1
          have f104 := gd e104
          obtain ⟨A9, m9, c9, q9⟩ := p104
          have e9 := e104.trans q9
          have f9 := gd e9
          exact ro_pure (v := .int .i64 0) (wanted_none rfl) (by simp [execOp, Act.eval, e9, f9, go_sem]) (sp_same (by kernel_rfl) hl hs hS rfl) trivial
        refine SSteps.cons (fun a w' vs σ hS hl hs hk => ?_) ?_
        · have e109 : a.tmps.getD 109 undef = vs 5 := sk_val hk 5 (by kernel_rfl) rfl rfl
          have p109 : (fun u : Value => ∃ A m c, u = .slice A m c) (vs 5) := (hk.1 5 (by kernel_rfl)).1
          have f109 := gd e109
          obtain ⟨A9, m9, c9, q9⟩ := p109
          have e9 := e109.trans q9
          have f9 := gd e9
          have h2 : σ[0]? = some (.lines (vs 5) g19_1) := hs 0 (by decide)
          rw [q9] at h2
          have hSS : Objs w w' ((σ ++ []).set 0 (.lines (.slice A9 m9 c9) g19_1)) := by rw [set_self (sg h2)]; exact hS
          exact rs_run (v' := .slice A9 m9 c9) (w' := w') (wanted_none rfl) (by simp [execOp, Act.eval, e9, f9, go_sem]) (sp_set 0 (.lines (.slice A9 m9 c9) g19_1) (by kernel_rfl) (by simp) (by decide) hl hs (by rfl) hSS ⟨A9, m9, c9, rfl⟩)
        refine SSteps.cons (fun a w' vs σ hS hl hs hk => ?_) ?_
        · have e110 : a.tmps.getD 110 undef = (.int .i64 0 : Value) := (sk_val hk 6 (by kernel_rfl) rfl rfl).trans ((hk.1 6 (by kernel_rfl)).1)
          have f110 := gd e110
          exact ro_pure (v := .int .i64 0) (wanted_none rfl) (by simp [execOp, Act.eval, e110, f110, go_sem]) (sp_same (by kernel_rfl) hl hs hS (show (.int .i64 0 : Value) = _ from rfl)) trivial
        exact SSteps.nil
      · intro vs w' hS hv
        have q0 := (show vs 0 = (.pointer (some ⟨p, 0, none⟩) : Value) from hv 0 (by decide))
        have q1 := (show vs 1 = (.agg #[.int .i64 1, .int .i64 2] : Value) from hv 1 (by decide))
        have q2 := (show vs 2 = (.agg (pv pen0) : Value) from hv 2 (by decide))
        have q6 := (show vs 6 = (.int .i64 0 : Value) from hv 6 (by decide))
        have q8 := (show vs 8 = (.int .i64 0 : Value) from hv 8 (by decide))
        obtain ⟨Aa, ma, ca, qa⟩ := (show ∃ A m c, vs 3 = (.tuple #[.slice A m c, .int .i64 0] : Value) from hv 3 (by decide))
        obtain ⟨Ab, mb, cb, qb⟩ := (show ∃ A m c, vs 4 = (.tuple #[.slice A m c, .int .i64 0] : Value) from hv 4 (by decide))
        obtain ⟨Ac, mc, cc, qc⟩ := (show ∃ A m c, vs 5 = .slice A m c from hv 5 (by decide))
        obtain ⟨Ad16, md16, cd16, qd⟩ := (show ∃ A m c, vs 7 = .slice A m c from hv 7 (by decide))
        rw [qd] at hS
        have S2 := Lib.hid hS
        simp only [putL, Act.put, Nat.zero_add, Nat.reduceAdd, List.setIfInBounds_toArray, List.set_cons_succ, List.set_cons_zero, q0, q1, q2, q6, q8]
        clear hS hv q0 q1 q2 q6 q8
        simp only [qa, qb, qc, qd]
        clear qa qb qc qd
        have hT1 := (show Objs w w' [.lines (.slice Ad16 md16 cd16) g19_1, .box b4 31 (pv pen0), .grid p 37 2 k19_2] from S2.out)
        obtain rfl : md16 = 0 := (hT1.linesRd' (k := 0) rfl).1.trans (by kernel_rfl)
        have T1 := Lib.hid hT1
        clear S2 SZ hT1
        go_wp2_with fail
        refine (show Calls Tryd.prog 46 #[.pointer (some ⟨p, 0, none⟩), .string ⟨#[98, 46, 46, 100]⟩] _ _ from (l19rowed_yes [98, 46, 46, 100] _ rfl T1.out (k := 2) rfl (by decide) (by decide) (by decide +kernel))).mono ?_
        rintro e wrT3 ⟨rfl, hS⟩
        have T3 := Lib.hid hS
        clear hS T1
        have SZ := Lib.hid T3.out.tail.pad.pad
        clear T3
        go_upto_region 19 with (fail)
        refine wp_region_stage (w0 := w) (os := []) (by kernel_rfl) (by kernel_rfl) (by kernel_rfl) [(3, 4, [], fun vs => .grid p 37 2 k19_3), (0, 4, [4], fun vs => .lines (tupAt 1 (vs 4)) g19_2), (0, 5, [5], fun vs => .lines (tupAt 1 (vs 5)) g19_2), (0, 7, [7], fun vs => .lines (vs 7) g19_2), (1, 9, [9], fun vs => .box (blkOf (vs 9)) 25 #[.int .i64 0, .int .i64 0, .bool false]), (1, 10, [9], fun vs => .box (blkOf (vs 9)) 25 #[.int .i64 3, .int .i64 1, .bool false]), (0, 11, [11], fun vs => .lines (vs 11) g19_2)] [[], [], [], [2], [0, 3], [0], [], [0], [], [1], [1], [0], []] [.none, .none, .box b4 31 (pv pen0), .grid p 37 2 k19_2] (fun i u => match i with | 0 => u = (.pointer (some ⟨p, 0, none⟩) : Value) | 1 => u = (.agg #[.int .i64 0, .int .i64 3] : Value) | 2 => u = (.agg #[.int .i64 3, .int .i64 1, .bool true] : Value) | 3 => u = (.agg (pv pen0) : Value) | 4 => ∃ A m c, u = (.tuple #[.agg #[.int .i64 3, .int .i64 1, .bool false], .slice A m c, .int .i64 0] : Value) | 5 => ∃ A m c, u = (.tuple #[.agg #[.int .i64 3, .int .i64 1, .bool false], .slice A m c, .int .i64 0] : Value) | 6 => u = (.agg #[.int .i64 3, .int .i64 1, .bool false] : Value) | 7 => ∃ A m c, u = .slice A m c | 8 => u = (.int .i64 0 : Value) | 9 => ∃ g, u = .pointer (some ⟨g, 0, none⟩) | 10 => True | 11 => ∃ A m c, u = .slice A m c | 12 => u = (.int .i64 0 : Value) | _ => True) (fun vs => [.lines (vs 11) g19_2, .box (blkOf (vs 9)) 25 #[.int .i64 3, .int .i64 1, .bool false], .box b4 31 (pv pen0), .grid p 37 2 k19_3]) (by kernel_rfl) (fun vs => by rfl) SZ.out ?_ ?_
        · refine SSteps.cons (fun a w' vs σ hS hl hs hk => ?_) ?_
          · have e1 : a.tmps.getD 1 undef = (.pointer (some ⟨p, 0, none⟩) : Value) := (sk_old hk 1 (by kernel_rfl)).trans rfl
            have f1 := gd e1
            exact ro_pure (v := .pointer (some ⟨p, 0, none⟩)) (wanted_none rfl) (by simp [execOp, Act.eval, e1, f1, go_sem]) (sp_same (by kernel_rfl) hl hs hS (show (.pointer (some ⟨p, 0, none⟩) : Value) = _ from rfl)) trivial
          refine SSteps.cons (fun a w' vs σ hS hl hs hk => ?_) ?_
          · exact ro_call (f := 43) (wanted_none rfl) rfl (by simp only [List.map_toArray, List.map_cons, List.map_nil, Act.eval] <;> rfl) (fun _ _ => by kernel_rfl) ((l19to_any 0 3 w').mono fun e w2 ⟨h1, h2⟩ => ⟨_, h1, sp_same (by kernel_rfl) hl hs (hS.bel h2) rfl, trivial⟩)
          refine SSteps.cons (fun a w' vs σ hS hl hs hk => ?_) ?_
          · exact ro_pure (v := .agg #[.int .i64 3, .int .i64 1, .bool true]) (wanted_none rfl) (by simp [execOp, Act.eval, go_sem]) (sp_same (by kernel_rfl) hl hs hS (show (.agg #[.int .i64 3, .int .i64 1, .bool true] : Value) = _ from rfl)) trivial
          refine SSteps.cons (fun a w' vs σ hS hl hs hk => ?_) ?_
          · have e4 : a.tmps.getD 4 undef = (.pointer (some ⟨b4, 0, none⟩) : Value) := (sk_old hk 4 (by kernel_rfl)).trans rfl
            have f4 := gd e4
            have hx := (hS.box (sg (hs 2 (by decide)))).penAt
            exact ro_pure (v := .agg (pv pen0)) (wanted_none rfl) (by simp [execOp, Act.eval, e4, f4, go_sem, hx]) (sp_same (by kernel_rfl) hl hs hS (show (.agg (pv pen0) : Value) = _ from rfl)) trivial
          refine SSteps.cons (fun a w' vs σ hS hl hs hk => ?_) ?_
          · have e124 : a.tmps.getD 124 undef = (.pointer (some ⟨p, 0, none⟩) : Value) := (sk_val hk 0 (by kernel_rfl) rfl rfl).trans ((hk.1 0 (by kernel_rfl)).1)
            have f124 := gd e124
            have e125 : a.tmps.getD 125 undef = (.agg #[.int .i64 0, .int .i64 3] : Value) := (sk_val hk 1 (by kernel_rfl) rfl rfl).trans ((hk.1 1 (by kernel_rfl)).1)
            have f125 := gd e125
            have e126 : a.tmps.getD 126 undef = (.agg #[.int .i64 3, .int .i64 1, .bool true] : Value) := (sk_val hk 2 (by kernel_rfl) rfl rfl).trans ((hk.1 2 (by kernel_rfl)).1)
            have f126 := gd e126
            have e127 : a.tmps.getD 127 undef = (.agg (pv pen0) : Value) := (sk_val hk 3 (by kernel_rfl) rfl rfl).trans ((hk.1 3 (by kernel_rfl)).1)
            have f127 := gd e127
            have h1 : σ[3]? = some (.grid p 37 2 k19_2) := hs 3 (by decide)
            have hn : σ[0]? = some .none := hs 0 (by decide)
            exact ro_call (f := 13) (wanted_none rfl) rfl (by simp only [List.map_toArray, List.map_cons, List.map_nil, Act.eval, e124, e125, e126, e127] <;> rfl) (fun _ _ => by kernel_rfl) ((kc19 HT.out hS (sg h1)).mono fun e w2 ⟨A9, m9, c9, h2, h3⟩ => ⟨_, h2, sp_set2 3 0 (.grid p 37 2 k19_3) (.lines (.slice A9 m9 c9) g19_2) (by decide) (by kernel_rfl) (by simp) (by simp) (by decide) (by decide) hl hs (by rfl) (by rfl) (h3.place (k := 0) (by rw [List.getElem?_set_ne (by decide)]; exact sg hn)) ⟨A9, m9, c9, rfl⟩, trivial⟩)
          refine SSteps.cons (fun a w' vs σ hS hl hs hk => ?_) ?_
          · have e128 : a.tmps.getD 128 undef = vs 4 := sk_val hk 4 (by kernel_rfl) rfl rfl
            have p128 : (fun u : Value => ∃ A m c, u = (.tuple #[.agg #[.int .i64 3, .int .i64 1, .bool false], .slice A m c, .int .i64 0] : Value)) (vs 4) := (hk.1 4 (by kernel_rfl)).1
            have f128 := gd e128
            obtain ⟨A9, m9, c9, q9⟩ := p128
            have e9 := e128.trans q9
            have f9 := gd e9
            have h2 : σ[0]? = some (.lines (tupAt 1 (vs 4)) g19_2) := hs 0 (by decide)
            rw [q9, show tupAt 1 (.tuple #[.agg #[.int .i64 3, .int .i64 1, .bool false], .slice A9 m9 c9, .int .i64 0] : Value) = .slice A9 m9 c9 from rfl] at h2
            have hSS : Objs w w' ((σ ++ []).set 0 (.lines (.slice A9 m9 c9) g19_2)) := by rw [set_self (sg h2)]; exact hS
            exact rs_run (v' := (.tuple #[.agg #[.int .i64 3, .int .i64 1, .bool false], .slice A9 m9 c9, .int .i64 0] : Value)) (w' := w') (wanted_none rfl) (by simp [execOp, Act.eval, e9, f9, go_sem]) (sp_set 0 (.lines (.slice A9 m9 c9) g19_2) (by kernel_rfl) (by simp) (by decide) hl hs (by rfl) hSS ⟨A9, m9, c9, rfl⟩)
          refine SSteps.cons (fun a w' vs σ hS hl hs hk => ?_) ?_
          · have e123 : a.tmps.getD 123 undef = vs 5 := sk_val hk 5 (by kernel_rfl) rfl rfl
            have p123 : (fun u : Value => ∃ A m c, u = (.tuple #[.agg #[.int .i64 3, .int .i64 1, .bool false], .slice A m c, .int .i64 0] : Value)) (vs 5) := (hk.1 5 (by kernel_rfl)).1
            have f123 := gd e123
            obtain ⟨A9, m9, c9, q9⟩ := p123
            have e9 := e123.trans q9
            have f9 := gd e9
            exact ro_pure (v := .agg #[.int .i64 3, .int .i64 1, .bool false]) (wanted_none rfl) (by simp [execOp, Act.eval, e9, f9, go_sem]) (sp_same (by kernel_rfl) hl hs hS rfl) trivial
          refine SSteps.cons (fun a w' vs σ hS hl hs hk => ?_) ?_
          · have e123 : a.tmps.getD 123 undef = vs 5 := sk_val hk 5 (by kernel_rfl) rfl rfl
            have p123 : (fun u : Value => ∃ A m c, u = (.tuple #[.agg #[.int .i64 3, .int .i64 1, .bool false], .slice A m c, .int .i64 0] : Value)) (vs 5) := (hk.1 5 (by kernel_rfl)).1
            have f123 := gd e123
            obtain ⟨A9, m9, c9, q9⟩ := p123
            have e9 := e123.trans q9
            have f9 := gd e9
            have h2 : σ[0]? = some (.lines (tupAt 1 (vs 5)) g19_2) := hs 0 (by decide)
            rw [q9, show tupAt 1 (.tuple #[.agg #[.int .i64 3, .int .i64 1, .bool false], .slice A9 m9 c9, .int .i64 0] : Value) = .slice A9 m9 c9 from rfl] at h2
            have hSS : Objs w w' ((σ ++ []).set 0 (.lines (.slice A9 m9 c9) g19_2)) := by rw [set_self (sg h2)]; exact hS
            exact rs_run (v' := .slice A9 m9 c9) (w' := w') (wanted_none rfl) (by simp [execOp, Act.eval, e9, f9, go_sem]) (sp_set 0 (.lines (.slice A9 m9 c9) g19_2) (by kernel_rfl) (by simp) (by decide) hl hs (by rfl) hSS ⟨A9, m9, c9, rfl⟩)
          refine SSteps.cons (fun a w' vs σ hS hl hs hk => ?_) ?_
          · have e123 : a.tmps.getD 123 undef = vs 5 := sk_val hk 5 (by kernel_rfl) rfl rfl
            have p123 : (fun u : Value => ∃ A m c, u = (.tuple #[.agg #[.int .i64 3, .int .i64 1, .bool false], .slice A m c, .int .i64 0] : Value)) (vs 5) := (hk.1 5 (by kernel_rfl)).1
            have f123 := gd e123
            obtain ⟨A9, m9, c9, q9⟩ := p123
            have e9 := e123.trans q9
            have f9 := gd e9
            exact ro_pure (v := .int .i64 0) (wanted_none rfl) (by simp [execOp, Act.eval, e9, f9, go_sem]) (sp_same (by kernel_rfl) hl hs hS rfl) trivial
          refine SSteps.cons (fun a w' vs σ hS hl hs hk => ?_) ?_
          · have h1 : σ[1]? = some .none := hs 1 (by decide)
            exact rs_run (v' := .pointer (some ⟨w'.heap.size, 0, none⟩)) (w' := w'.alloc (.cells #[.int .i64 0, .int .i64 0, .bool false] 25)) (wanted_none rfl) (by simp [execOp, go_sem]) (sp_set 1 (.box w'.heap.size 25 #[.int .i64 0, .int .i64 0, .bool false]) (by kernel_rfl) (by simp) (by decide) hl hs (by rfl) (hS.alloc1.place (sg h1)) ⟨_, rfl⟩)
          refine SSteps.cons (fun a w' vs σ hS hl hs hk => ?_) ?_
          · have e7 : a.tmps.getD 7 undef = vs 9 := sk_val hk 9 (by kernel_rfl) rfl rfl
            have p7 : (fun u : Value => ∃ g, u = .pointer (some ⟨g, 0, none⟩)) (vs 9) := (hk.1 9 (by kernel_rfl)).1
            have f7 := gd e7
            have e129 : a.tmps.getD 129 undef = (.agg #[.int .i64 3, .int .i64 1, .bool false] : Value) := (sk_val hk 6 (by kernel_rfl) rfl rfl).trans ((hk.1 6 (by kernel_rfl)).1)
            have f129 := gd e129
            obtain ⟨g9, q9⟩ := p7
            have h1 : σ[1]? = some (.box (blkOf (vs 9)) 25 #[.int .i64 0, .int .i64 0, .bool false]) := hs 1 (by decide)
            rw [q9, show blkOf (.pointer (some ⟨g9, 0, none⟩)) = g9 from rfl] at h1
            obtain ⟨hx, hf, hz⟩ := (hS.box (sg h1)).facts
            exact rstep_store (w2 := ((w'.setCell ⟨g9, 0, none⟩ (.int .i64 3)).setCell ⟨g9, 1, none⟩ (.int .i64 1)).setCell ⟨g9, 2, none⟩ (.bool false)) (wanted_none rfl) rfl (by simp [execOp, Act.eval, e7, f7, e129, f129, q9, hx, hf, hz, go_sem]) (sp_set 1 (.box g9 25 #[.int .i64 3, .int .i64 1, .bool false]) (by kernel_rfl) (by simp) (by decide) hl hs (by show Ob.box (blkOf (vs 9)) 25 _ = _; rw [q9]; rfl) (hS.setBox3 (sg h1)) trivial) trivial
          refine SSteps.cons (fun a w' vs σ hS hl hs hk => ?_) ?_
          · have e130 : a.tmps.getD 130 undef = vs 7 := sk_val hk 7 (by kernel_rfl) rfl rfl
            have p130 : (fun u : Value => ∃ A m c, u = .slice A m c) (vs 7) := (hk.1 7 (by kernel_rfl)).1
            have f130 := gd e130
            obtain ⟨A9, m9, c9, q9⟩ := p130
            have e9 := e130.trans q9
            have f9 := gd e9
            have h2 : σ[0]? = some (.lines (vs 7) g19_2) := hs 0 (by decide)
            rw [q9] at h2
            have hSS : Objs w w' ((σ ++ []).set 0 (.lines (.slice A9 m9 c9) g19_2)) := by rw [set_self (sg h2)]; exact hS
            exact rs_run (v' := .slice A9 m9 c9) (w' := w') (wanted_none rfl) (by simp [execOp, Act.eval, e9, f9, go_sem]) (sp_set 0 (.lines (.slice A9 m9 c9) g19_2) (by kernel_rfl) (by simp) (by decide) hl hs (by rfl) hSS ⟨A9, m9, c9, rfl⟩)
          refine SSteps.cons (fun a w' vs σ hS hl hs hk => ?_) ?_
          · have e131 : a.tmps.getD 131 undef = (.int .i64 0 : Value) := (sk_val hk 8 (by kernel_rfl) rfl rfl).trans ((hk.1 8 (by kernel_rfl)).1)
            have f131 := gd e131
            exact ro_pure (v := .int .i64 0) (wanted_none rfl) (by simp [execOp, Act.eval, e131, f131, go_sem]) (sp_same (by kernel_rfl) hl hs hS (show (.int .i64 0 : Value) = _ from rfl)) trivial
          exact SSteps.nil
        · intro vs w' hS hv
          have q0 := (show vs 0 = (.pointer (some ⟨p, 0, none⟩) : Value) from hv 0 (by decide))
          have q1 := (show vs 1 = (.agg #[.int .i64 0, .int .i64 3] : Value) from hv 1 (by decide))
          have q2 := (show vs 2 = (.agg #[.int .i64 3, .int .i64 1, .bool true] : Value) from hv 2 (by decide))
          have q3 := (show vs 3 = (.agg (pv pen0) : Value) from hv 3 (by decide))
          have q6 := (show vs 6 = (.agg #[.int .i64 3, .int .i64 1, .bool false] : Value) from hv 6 (by decide))
          have q8 := (show vs 8 = (.int .i64 0 : Value) from hv 8 (by decide))
          have q12 := (show vs 12 = (.int .i64 0 : Value) from hv 12 (by decide))
          obtain ⟨Aa, ma, ca, qa⟩ := (show ∃ A m c, vs 4 = (.tuple #[.agg #[.int .i64 3, .int .i64 1, .bool false], .slice A m c, .int .i64 0] : Value) from hv 4 (by decide))
          obtain ⟨Ab, mb, cb, qb⟩ := (show ∃ A m c, vs 5 = (.tuple #[.agg #[.int .i64 3, .int .i64 1, .bool false], .slice A m c, .int .i64 0] : Value) from hv 5 (by decide))
          obtain ⟨Ac, mc, cc, qc⟩ := (show ∃ A m c, vs 7 = .slice A m c from hv 7 (by decide))
          obtain ⟨Ad19, md19, cd19, qd⟩ := (show ∃ A m c, vs 11 = .slice A m c from hv 11 (by decide))
          obtain ⟨b7, qb7⟩ := (show ∃ g, vs 9 = .pointer (some ⟨g, 0, none⟩) from hv 9 (by decide))
          rw [qd, qb7] at hS
          have S2 := Lib.hid hS
          simp only [putL, Act.put, Nat.zero_add, Nat.reduceAdd, List.setIfInBounds_toArray, List.set_cons_succ, List.set_cons_zero, q0, q1, q2, q3, q6, q8, q12]
          clear hS hv q0 q1 q2 q3 q6 q8 q12
          simp only [qa, qb, qc, qd, qb7]
          clear qa qb qc qd qb7
          have T1 := Lib.hid (show Objs w w' [.lines (.slice Ad19 md19 cd19) g19_2, .box b7 25 #[.int .i64 3, .int .i64 1, .bool false], .box b4 31 (pv pen0), .grid p 37 2 k19_3] from S2.out)
          clear S2 SZ
          obtain ⟨hx7, hf7, hz7⟩ := (T1.out.box (k := 1) rfl).facts
          go_wp2_with fail
          refine (show Calls Tryd.prog 45 #[.slice Ad19 md19 cd19, .string ⟨#[98]⟩] _ _ from (l19letters_yes [98] _ rfl T1.out (k := 0) rfl (by kernel_rfl) (by decide) (by decide +kernel) (by decide) (by decide +kernel))).mono ?_
          rintro e wrT2 ⟨rfl, hS⟩
          have T2 := Lib.hid hS
          clear hS T1
          clear hx7 hf7 hz7
          go_wp2_with fail
          refine (show Calls Tryd.prog 46 #[.pointer (some ⟨p, 0, none⟩), .string ⟨#[46, 46, 100, 46]⟩] _ _ from (l19rowed_yes [46, 46, 100, 46] _ rfl T2.out (k := 3) rfl (by decide) (by decide) (by decide +kernel))).mono ?_
          rintro e wrT3 ⟨rfl, hS⟩
          have T3 := Lib.hid hS
          clear hS T2
          have SZ := Lib.hid T3.out.tail
          clear T3
          go_upto_region 22 with (fail)
          refine wp_region_stage (w0 := w) (os := []) (by kernel_rfl) (by kernel_rfl) (by kernel_rfl) [(2, 4, [], fun vs => .grid p 37 2 k19_4), (0, 8, [], fun vs => .box b7 25 #[.int .i64 1, .int .i64 0, .bool false])] [[], [], [], [1], [2], [], [], [], [0], []] [.box b7 25 #[.int .i64 3, .int .i64 1, .bool false], .box b4 31 (pv pen0), .grid p 37 2 k19_3] (fun i u => match i with | 0 => u = (.pointer (some ⟨p, 0, none⟩) : Value) | 1 => u = (.agg #[.int .i64 1, .int .i64 3] : Value) | 2 => u = (.agg #[.int .i64 1, .int .i64 0, .bool false] : Value) | 3 => u = (.agg (pv pen0) : Value) | 4 => u = (.tuple #[.agg #[.int .i64 1, .int .i64 0, .bool false], .int .i64 0] : Value) | 5 => u = (.tuple #[.agg #[.int .i64 1, .int .i64 0, .bool false], .int .i64 0] : Value) | 6 => u = (.agg #[.int .i64 1, .int .i64 0, .bool false] : Value) | 7 => u = (.int .i64 0 : Value) | 8 => True | 9 => u = (.int .i64 0 : Value) | _ => True) (fun vs => [.box b7 25 #[.int .i64 1, .int .i64 0, .bool false], .box b4 31 (pv pen0), .grid p 37 2 k19_4]) (by kernel_rfl) (fun vs => by rfl) SZ.out ?_ ?_
          · refine SSteps.cons (fun a w' vs σ hS hl hs hk => ?_) ?_
            · have e1 : a.tmps.getD 1 undef = (.pointer (some ⟨p, 0, none⟩) : Value) := (sk_old hk 1 (by kernel_rfl)).trans rfl
              have f1 := gd e1
              exact ro_pure (v := .pointer (some ⟨p, 0, none⟩)) (wanted_none rfl) (by simp [execOp, Act.eval, e1, f1, go_sem]) (sp_same (by kernel_rfl) hl hs hS (show (.pointer (some ⟨p, 0, none⟩) : Value) = _ from rfl)) trivial
            refine SSteps.cons (fun a w' vs σ hS hl hs hk => ?_) ?_
            · exact ro_call (f := 43) (wanted_none rfl) rfl (by simp only [List.map_toArray, List.map_cons, List.map_nil, Act.eval] <;> rfl) (fun _ _ => by kernel_rfl) ((l19to_any 1 3 w').mono fun e w2 ⟨h1, h2⟩ => ⟨_, h1, sp_same (by kernel_rfl) hl hs (hS.bel h2) rfl, trivial⟩)
            refine SSteps.cons (fun a w' vs σ hS hl hs hk => ?_) ?_
            · exact ro_pure (v := .agg #[.int .i64 1, .int .i64 0, .bool false]) (wanted_none rfl) (by simp [execOp, Act.eval, go_sem]) (sp_same (by kernel_rfl) hl hs hS (show (.agg #[.int .i64 1, .int .i64 0, .bool false] : Value) = _ from rfl)) trivial
            refine SSteps.cons (fun a w' vs σ hS hl hs hk => ?_) ?_
            · have e4 : a.tmps.getD 4 undef = (.pointer (some ⟨b4, 0, none⟩) : Value) := (sk_old hk 4 (by kernel_rfl)).trans rfl
              have f4 := gd e4
              have hx := (hS.box (sg (hs 1 (by decide)))).penAt
              exact ro_pure (v := .agg (pv pen0)) (wanted_none rfl) (by simp [execOp, Act.eval, e4, f4, go_sem, hx]) (sp_same (by kernel_rfl) hl hs hS (show (.agg (pv pen0) : Value) = _ from rfl)) trivial
            refine SSteps.cons (fun a w' vs σ hS hl hs hk => ?_) ?_
            · have e150 : a.tmps.getD 150 undef = (.pointer (some ⟨p, 0, none⟩) : Value) := (sk_val hk 0 (by kernel_rfl) rfl rfl).trans ((hk.1 0 (by kernel_rfl)).1)
              have f150 := gd e150
              have e151 : a.tmps.getD 151 undef = (.agg #[.int .i64 1, .int .i64 3] : Value) := (sk_val hk 1 (by kernel_rfl) rfl rfl).trans ((hk.1 1 (by kernel_rfl)).1)
              have f151 := gd e151
              have e152 : a.tmps.getD 152 undef = (.agg #[.int .i64 1, .int .i64 0, .bool false] : Value) := (sk_val hk 2 (by kernel_rfl) rfl rfl).trans ((hk.1 2 (by kernel_rfl)).1)
              have f152 := gd e152
              have e153 : a.tmps.getD 153 undef = (.agg (pv pen0) : Value) := (sk_val hk 3 (by kernel_rfl) rfl rfl).trans ((hk.1 3 (by kernel_rfl)).1)
              have f153 := gd e153
              have h1 : σ[2]? = some (.grid p 37 2 k19_3) := hs 2 (by decide)
              exact ro_call (f := 14) (wanted_none rfl) rfl (by simp only [List.map_toArray, List.map_cons, List.map_nil, Act.eval, e150, e151, e152, e153] <;> rfl) (fun _ _ => by kernel_rfl) ((kc22 HT.out hS (sg h1)).mono fun e w2 ⟨h2, h3⟩ => ⟨_, h2, sp_set 2 _ (by kernel_rfl) (by simp) (by decide) hl hs (by rfl) h3 rfl, trivial⟩)
            refine SSteps.cons (fun a w' vs σ hS hl hs hk => ?_) ?_
            · have e154 : a.tmps.getD 154 undef = (.tuple #[.agg #[.int .i64 1, .int .i64 0, .bool false], .int .i64 0] : Value) := (sk_val hk 4 (by kernel_rfl) rfl rfl).trans ((hk.1 4 (by kernel_rfl)).1)
              have f154 := gd e154
              exact ro_pure (v := .tuple #[.agg #[.int .i64 1, .int .i64 0, .bool false], .int .i64 0]) (wanted_none rfl) (by simp [execOp, Act.eval, e154, f154, go_sem]) (sp_same (by kernel_rfl) hl hs hS (show (.tuple #[.agg #[.int .i64 1, .int .i64 0, .bool false], .int .i64 0] : Value) = _ from rfl)) trivial
            refine SSteps.cons (fun a w' vs σ hS hl hs hk => ?_) ?_
            · have e149 : a.tmps.getD 149 undef = (.tuple #[.agg #[.int .i64 1, .int .i64 0, .bool false], .int .i64 0] : Value) := (sk_val hk 5 (by kernel_rfl) rfl rfl).trans ((hk.1 5 (by kernel_rfl)).1)
              have f149 := gd e149
              exact ro_pure (v := .agg #[.int .i64 1, .int .i64 0, .bool false]) (wanted_none rfl) (by simp [execOp, Act.eval, e149, f149, go_sem]) (sp_same (by kernel_rfl) hl hs hS (show (.agg #[.int .i64 1, .int .i64 0, .bool false] : Value) = _ from rfl)) trivial
            refine SSteps.cons (fun a w' vs σ hS hl hs hk => ?_) ?_
            · have e149 : a.tmps.getD 149 undef = (.tuple #[.agg #[.int .i64 1, .int .i64 0, .bool false], .int .i64 0] : Value) := (sk_val hk 5 (by kernel_rfl) rfl rfl).trans ((hk.1 5 (by kernel_rfl)).1)
              have f149 := gd e149
              exact ro_pure (v := .int .i64 0) (wanted_none rfl) (by simp [execOp, Act.eval, e149, f149, go_sem]) (sp_same (by kernel_rfl) hl hs hS (show (.int .i64 0 : Value) = _ from rfl)) trivial
            refine SSteps.cons (fun a w' vs σ hS hl hs hk => ?_) ?_
            · have e7 : a.tmps.getD 7 undef = (.pointer (some ⟨b7, 0, none⟩) : Value) := (sk_old hk 7 (by kernel_rfl)).trans rfl
              have f7 := gd e7
              have e155 : a.tmps.getD 155 undef = (.agg #[.int .i64 1, .int .i64 0, .bool false] : Value) := (sk_val hk 6 (by kernel_rfl) rfl rfl).trans ((hk.1 6 (by kernel_rfl)).1)
              have f155 := gd e155
              have h1 : σ[0]? = some (.box b7 25 #[.int .i64 3, .int .i64 1, .bool false]) := hs 0 (by decide)
              obtain ⟨hx, hf, hz⟩ := (hS.box (sg h1)).facts
              exact rstep_store (w2 := ((w'.setCell ⟨b7, 0, none⟩ (.int .i64 1)).setCell ⟨b7, 1, none⟩ (.int .i64 0)).setCell ⟨b7, 2, none⟩ (.bool false)) (wanted_none rfl) rfl (by simp [execOp, Act.eval, e7, f7, e155, f155, hx, hf, hz, go_sem]) (sp_set 0 (.box b7 25 #[.int .i64 1, .int .i64 0, .bool false]) (by kernel_rfl) (by simp) (by decide) hl hs (by rfl) (hS.setBox3 (sg h1)) trivial) trivial
            refine SSteps.cons (fun a w' vs σ hS hl hs hk => ?_) ?_
            · have e156 : a.tmps.getD 156 undef = (.int .i64 0 : Value) := (sk_val hk 7 (by kernel_rfl) rfl rfl).trans ((hk.1 7 (by kernel_rfl)).1)
              have f156 := gd e156
              exact ro_pure (v := .int .i64 0) (wanted_none rfl) (by simp [execOp, Act.eval, e156, f156, go_sem]) (sp_same (by kernel_rfl) hl hs hS (show (.int .i64 0 : Value) = _ from rfl)) trivial
            exact SSteps.nil
          · intro vs w' hS hv
            have q0 := (show vs 0 = (.pointer (some ⟨p, 0, none⟩) : Value) from hv 0 (by decide))
            have q1 := (show vs 1 = (.agg #[.int .i64 1, .int .i64 3] : Value) from hv 1 (by decide))
            have q2 := (show vs 2 = (.agg #[.int .i64 1, .int .i64 0, .bool false] : Value) from hv 2 (by decide))
            have q3 := (show vs 3 = (.agg (pv pen0) : Value) from hv 3 (by decide))
            have q4 := (show vs 4 = (.tuple #[.agg #[.int .i64 1, .int .i64 0, .bool false], .int .i64 0] : Value) from hv 4 (by decide))
            have q5 := (show vs 5 = (.tuple #[.agg #[.int .i64 1, .int .i64 0, .bool false], .int .i64 0] : Value) from hv 5 (by decide))
            have q6 := (show vs 6 = (.agg #[.int .i64 1, .int .i64 0, .bool false] : Value) from hv 6 (by decide))
            have q7 := (show vs 7 = (.int .i64 0 : Value) from hv 7 (by decide))
            have q9 := (show vs 9 = (.int .i64 0 : Value) from hv 9 (by decide))
            have S2 := Lib.hid hS
            simp only [putL, Act.put, Nat.zero_add, Nat.reduceAdd, List.setIfInBounds_toArray, List.set_cons_succ, List.set_cons_zero, q0, q1, q2, q3, q4, q5, q6, q7, q9]
            clear hS hv q0 q1 q2 q3 q4 q5 q6 q7 q9
            have T1 := Lib.hid (show Objs w w' [.box b7 25 #[.int .i64 1, .int .i64 0, .bool false], .box b4 31 (pv pen0), .grid p 37 2 k19_4] from S2.out)
            clear S2 SZ
            obtain ⟨hx7, hf7, hz7⟩ := (T1.out.box (k := 0) rfl).facts
            go_wp2_with fail
            refine (show Calls Tryd.prog 46 #[.pointer (some ⟨p, 0, none⟩), .string ⟨#[46, 46, 46, 100]⟩] _ _ from (l19rowed_yes [46, 46, 46, 100] _ rfl T1.out (k := 2) rfl (by decide) (by decide) (by decide +kernel))).mono ?_
            rintro e wrT3 ⟨rfl, hS⟩
            have T3 := Lib.hid hS
            clear hS T1
            clear hx7 hf7 hz7
            have SZ := Lib.hid T3.out
            clear T3
            go_upto_region 25 with (fail)
            refine wp_region_stage (w0 := w) (os := []) (by kernel_rfl) (by kernel_rfl) (by kernel_rfl) [(2, 4, [], fun vs => .grid p 37 2 k19_5), (0, 8, [], fun vs => .box b7 25 #[.int .i64 0, .int .i64 0, .bool false])] [[], [], [], [1], [2], [], [], [], [0], []] [.box b7 25 #[.int .i64 1, .int .i64 0, .bool false], .box b4 31 (pv pen0), .grid p 37 2 k19_4] (fun i u => match i with | 0 => u = (.pointer (some ⟨p, 0, none⟩) : Value) | 1 => u = (.agg #[.int .i64 1, .int .i64 3] : Value) | 2 => u = (.agg #[.int .i64 0, .int .i64 0, .bool false] : Value) | 3 => u = (.agg (pv pen0) : Value) | 4 => u = (.tuple #[.agg #[.int .i64 0, .int .i64 0, .bool false], .int .i64 0] : Value) | 5 => u = (.tuple #[.agg #[.int .i64 0, .int .i64 0, .bool false], .int .i64 0] : Value) | 6 => u = (.agg #[.int .i64 0, .int .i64 0, .bool false] : Value) | 7 => u = (.int .i64 0 : Value) | 8 => True | 9 => u = (.int .i64 0 : Value) | _ => True) (fun vs => [.box b7 25 #[.int .i64 0, .int .i64 0, .bool false], .box b4 31 (pv pen0), .grid p 37 2 k19_5]) (by kernel_rfl) (fun vs => by rfl) SZ.out ?_ ?_
            · refine SSteps.cons (fun a w' vs σ hS hl hs hk => ?_) ?_
              · have e1 : a.tmps.getD 1 undef = (.pointer (some ⟨p, 0, none⟩) : Value) := (sk_old hk 1 (by kernel_rfl)).trans rfl
                have f1 := gd e1
                exact ro_pure (v := .pointer (some ⟨p, 0, none⟩)) (wanted_none rfl) (by simp [execOp, Act.eval, e1, f1, go_sem]) (sp_same (by kernel_rfl) hl hs hS (show (.pointer (some ⟨p, 0, none⟩) : Value) = _ from rfl)) trivial
              refine SSteps.cons (fun a w' vs σ hS hl hs hk => ?_) ?_
              · exact ro_call (f := 43) (wanted_none rfl) rfl (by simp only [List.map_toArray, List.map_cons, List.map_nil, Act.eval] <;> rfl) (fun _ _ => by kernel_rfl) ((l19to_any 1 3 w').mono fun e w2 ⟨h1, h2⟩ => ⟨_, h1, sp_same (by kernel_rfl) hl hs (hS.bel h2) rfl, trivial⟩)
              refine SSteps.cons (fun a w' vs σ hS hl hs hk => ?_) ?_
              · exact ro_pure (v := .agg #[.int .i64 0, .int .i64 0, .bool false]) (wanted_none rfl) (by simp [execOp, Act.eval, go_sem]) (sp_same (by kernel_rfl) hl hs hS (show (.agg #[.int .i64 0, .int .i64 0, .bool false] : Value) = _ from rfl)) trivial
              refine SSteps.cons (fun a w' vs σ hS hl hs hk => ?_) ?_
              · have e4 : a.tmps.getD 4 undef = (.pointer (some ⟨b4, 0, none⟩) : Value) := (sk_old hk 4 (by kernel_rfl)).trans rfl
                have f4 := gd e4
                have hx := (hS.box (sg (hs 1 (by decide)))).penAt
                exact ro_pure (v := .agg (pv pen0)) (wanted_none rfl) (by simp [execOp, Act.eval, e4, f4, go_sem, hx]) (sp_same (by kernel_rfl) hl hs hS (show (.agg (pv pen0) : Value) = _ from rfl)) trivial
              refine SSteps.cons (fun a w' vs σ hS hl hs hk => ?_) ?_
              · have e170 : a.tmps.getD 170 undef = (.pointer (some ⟨p, 0, none⟩) : Value) := (sk_val hk 0 (by kernel_rfl) rfl rfl).trans ((hk.1 0 (by kernel_rfl)).1)
                have f170 := gd e170
                have e171 : a.tmps.getD 171 undef = (.agg #[.int .i64 1, .int .i64 3] : Value) := (sk_val hk 1 (by kernel_rfl) rfl rfl).trans ((hk.1 1 (by kernel_rfl)).1)
                have f171 := gd e171
                have e172 : a.tmps.getD 172 undef = (.agg #[.int .i64 0, .int .i64 0, .bool false] : Value) := (sk_val hk 2 (by kernel_rfl) rfl rfl).trans ((hk.1 2 (by kernel_rfl)).1)
                have f172 := gd e172
                have e173 : a.tmps.getD 173 undef = (.agg (pv pen0) : Value) := (sk_val hk 3 (by kernel_rfl) rfl rfl).trans ((hk.1 3 (by kernel_rfl)).1)
                have f173 := gd e173
                have h1 : σ[2]? = some (.grid p 37 2 k19_4) := hs 2 (by decide)
                exact ro_call (f := 14) (wanted_none rfl) rfl (by simp only [List.map_toArray, List.map_cons, List.map_nil, Act.eval, e170, e171, e172, e173] <;> rfl) (fun _ _ => by kernel_rfl) ((kc25 HT.out hS (sg h1)).mono fun e w2 ⟨h2, h3⟩ => ⟨_, h2, sp_set 2 _ (by kernel_rfl) (by simp) (by decide) hl hs (by rfl) h3 rfl, trivial⟩)
              refine SSteps.cons (fun a w' vs σ hS hl hs hk => ?_) ?_
              · have e174 : a.tmps.getD 174 undef = (.tuple #[.agg #[.int .i64 0, .int .i64 0, .bool false], .int .i64 0] : Value) := (sk_val hk 4 (by kernel_rfl) rfl rfl).trans ((hk.1 4 (by kernel_rfl)).1)
                have f174 := gd e174
                exact ro_pure (v := .tuple #[.agg #[.int .i64 0, .int .i64 0, .bool false], .int .i64 0]) (wanted_none rfl) (by simp [execOp, Act.eval, e174, f174, go_sem]) (sp_same (by kernel_rfl) hl hs hS (show (.tuple #[.agg #[.int .i64 0, .int .i64 0, .bool false], .int .i64 0] : Value) = _ from rfl)) trivial
              refine SSteps.cons (fun a w' vs σ hS hl hs hk => ?_) ?_
              · have e169 : a.tmps.getD 169 undef = (.tuple #[.agg #[.int .i64 0, .int .i64 0, .bool false], .int .i64 0] : Value) := (sk_val hk 5 (by kernel_rfl) rfl rfl).trans ((hk.1 5 (by kernel_rfl)).1)
                have f169 := gd e169
                exact ro_pure (v := .agg #[.int .i64 0, .int .i64 0, .bool false]) (wanted_none rfl) (by simp [execOp, Act.eval, e169, f169, go_sem]) (sp_same (by kernel_rfl) hl hs hS (show (.agg #[.int .i64 0, .int .i64 0, .bool false] : Value) = _ from rfl)) trivial
              refine SSteps.cons (fun a w' vs σ hS hl hs hk => ?_) ?_
              · have e169 : a.tmps.getD 169 undef = (.tuple #[.agg #[.int .i64 0, .int .i64 0, .bool false], .int .i64 0] : Value) := (sk_val hk 5 (by kernel_rfl) rfl rfl).trans ((hk.1 5 (by kernel_rfl)).1)
                have f169 := gd e169
                exact ro_pure (v := .int .i64 0) (wanted_none rfl) (by simp [execOp, Act.eval, e169, f169, go_sem]) (sp_same (by kernel_rfl) hl hs hS (show (.int .i64 0 : Value) = _ from rfl)) trivial
              refine SSteps.cons (fun a w' vs σ hS hl hs hk => ?_) ?_
              · have e7 : a.tmps.getD 7 undef = (.pointer (some ⟨b7, 0, none⟩) : Value) := (sk_old hk 7 (by kernel_rfl)).trans rfl
                have f7 := gd e7
                have e175 : a.tmps.getD 175 undef = (.agg #[.int .i64 0, .int .i64 0, .bool false] : Value) := (sk_val hk 6 (by kernel_rfl) rfl rfl).trans ((hk.1 6 (by kernel_rfl)).1)
                have f175 := gd e175
                have h1 : σ[0]? = some (.box b7 25 #[.int .i64 1, .int .i64 0, .bool false]) := hs 0 (by decide)
                obtain ⟨hx, hf, hz⟩ := (hS.box (sg h1)).facts
                exact rstep_store (w2 := ((w'.setCell ⟨b7, 0, none⟩ (.int .i64 0)).setCell ⟨b7, 1, none⟩ (.int .i64 0)).setCell ⟨b7, 2, none⟩ (.bool false)) (wanted_none rfl) rfl (by simp [execOp, Act.eval, e7, f7, e175, f175, hx, hf, hz, go_sem]) (sp_set 0 (.box b7 25 #[.int .i64 0, .int .i64 0, .bool false]) (by kernel_rfl) (by simp) (by decide) hl hs (by rfl) (hS.setBox3 (sg h1)) trivial) trivial
              refine SSteps.cons (fun a w' vs σ hS hl hs hk => ?_) ?_
              · have e176 : a.tmps.getD 176 undef = (.int .i64 0 : Value) := (sk_val hk 7 (by kernel_rfl) rfl rfl).trans ((hk.1 7 (by kernel_rfl)).1)
                have f176 := gd e176
                exact ro_pure (v := .int .i64 0) (wanted_none rfl) (by simp [execOp, Act.eval, e176, f176, go_sem]) (sp_same (by kernel_rfl) hl hs hS (show (.int .i64 0 : Value) = _ from rfl)) trivial
              exact SSteps.nil
            · intro vs w' hS hv
              have q0 := (show vs 0 = (.pointer (some ⟨p, 0, none⟩) : Value) from hv 0 (by decide))
              have q1 := (show vs 1 = (.agg #[.int .i64 1, .int .i64 3] : Value) from hv 1 (by decide))
              have q2 := (show vs 2 = (.agg #[.int .i64 0, .int .i64 0, .bool false] : Value) from hv 2 (by decide))
              have q3 := (show vs 3 = (.agg (pv pen0) : Value) from hv 3 (by decide))
              have q4 := (show vs 4 = (.tuple #[.agg #[.int .i64 0, .int .i64 0, .bool false], .int .i64 0] : Value) from hv 4 (by decide))
              have q5 := (show vs 5 = (.tuple #[.agg #[.int .i64 0, .int .i64 0, .bool false], .int .i64 0] : Value) from hv 5 (by decide))
              have q6 := (show vs 6 = (.agg #[.int .i64 0, .int .i64 0, .bool false] : Value) from hv 6 (by decide))
              have q7 := (show vs 7 = (.int .i64 0 : Value) from hv 7 (by decide))
              have q9 := (show vs 9 = (.int .i64 0 : Value) from hv 9 (by decide))
              have S2 := Lib.hid hS
              simp only [putL, Act.put, Nat.zero_add, Nat.reduceAdd, List.setIfInBounds_toArray, List.set_cons_succ, List.set_cons_zero, q0, q1, q2, q3, q4, q5, q6, q7, q9]
              clear hS hv q0 q1 q2 q3 q4 q5 q6 q7 q9
              have T1 := Lib.hid (show Objs w w' [.box b7 25 #[.int .i64 0, .int .i64 0, .bool false], .box b4 31 (pv pen0), .grid p 37 2 k19_5] from S2.out)
              clear S2 SZ
              have SZ := Lib.hid T1.out.pad.pad
              clear T1
              go_upto_region 26 with (fail)
              refine wp_region_stage (w0 := w) (os := []) (by kernel_rfl) (by kernel_rfl) (by kernel_rfl) [(4, 4, [], fun vs => .grid p 37 2 k19_6), (0, 4, [4], fun vs => .lines (tupAt 1 (vs 4)) g19_5), (0, 5, [5], fun vs => .lines (tupAt 1 (vs 5)) g19_5), (0, 7, [7], fun vs => .lines (vs 7) g19_5), (1, 9, [9], fun vs => .box (blkOf (vs 9)) 25 #[.int .i64 0, .int .i64 0, .bool false]), (1, 10, [9], fun vs => .box (blkOf (vs 9)) 25 #[.int .i64 3, .int .i64 0, .bool false]), (0, 11, [11], fun vs => .lines (vs 11) g19_5)] [[], [], [], [3], [0, 4], [0], [], [0], [], [1], [1], [0], []] [.none, .none, .box b7 25 #[.int .i64 0, .int .i64 0, .bool false], .box b4 31 (pv pen0), .grid p 37 2 k19_5] (fun i u => match i with | 0 => u = (.pointer (some ⟨p, 0, none⟩) : Value) | 1 => u = (.agg #[.int .i64 0, .int .i64 1] : Value) | 2 => u = (.agg #[.int .i64 3, .int .i64 0, .bool false] : Value) | 3 => u = (.agg (pv pen0) : Value) | 4 => ∃ A m c, u = (.tuple #[.agg #[.int .i64 3, .int .i64 0, .bool false], .slice A m c, .int .i64 0] : Value) | 5 => ∃ A m c, u = (.tuple #[.agg #[.int .i64 3, .int .i64 0, .bool false], .slice A m c, .int .i64 0] : Value) | 6 => u = (.agg #[.int .i64 3, .int .i64 0, .bool false] : Value) | 7 => ∃ A m c, u = .slice A m c | 8 => u = (.int .i64 0 : Value) | 9 => ∃ g, u = .pointer (some ⟨g, 0, none⟩) | 10 => True | 11 => ∃ A m c, u = .slice A m c | 12 => u = (.int .i64 0 : Value) | _ => True) (fun vs => [.lines (vs 11) g19_5, .box (blkOf (vs 9)) 25 #[.int .i64 3, .int .i64 0, .bool false], .box b7 25 #[.int .i64 0, .int .i64 0, .bool false], .box b4 31 (pv pen0), .grid p 37 2 k19_6]) (by kernel_rfl) (fun vs => by rfl) SZ.out ?_ ?_
              · refine SSteps.cons (fun a w' vs σ hS hl hs hk => ?_) ?_
                · have e1 : a.tmps.getD 1 undef = (.pointer (some ⟨p, 0, none⟩) : Value) := (sk_old hk 1 (by kernel_rfl)).trans rfl
                  have f1 := gd e1
                  exact ro_pure (v := .pointer (some ⟨p, 0, none⟩)) (wanted_none rfl) (by simp [execOp, Act.eval, e1, f1, go_sem]) (sp_same (by kernel_rfl) hl hs hS (show (.pointer (some ⟨p, 0, none⟩) : Value) = _ from rfl)) trivial
                refine SSteps.cons (fun a w' vs σ hS hl hs hk => ?_) ?_
                · exact ro_call (f := 43) (wanted_none rfl) rfl (by simp only [List.map_toArray, List.map_cons, List.map_nil, Act.eval] <;> rfl) (fun _ _ => by kernel_rfl) ((l19to_any 0 1 w').mono fun e w2 ⟨h1, h2⟩ => ⟨_, h1, sp_same (by kernel_rfl) hl hs (hS.bel h2) rfl, trivial⟩)
                refine SSteps.cons (fun a w' vs σ hS hl hs hk => ?_) ?_
                · exact ro_pure (v := .agg #[.int .i64 3, .int .i64 0, .bool false]) (wanted_none rfl) (by simp [execOp, Act.eval, go_sem]) (sp_same (by kernel_rfl) hl hs hS (show (.agg #[.int .i64 3, .int .i64 0, .bool false] : Value) = _ from rfl)) trivial
                refine SSteps.cons (fun a w' vs σ hS hl hs hk => ?_) ?_
                · have e4 : a.tmps.getD 4 undef = (.pointer (some ⟨b4, 0, none⟩) : Value) := (sk_old hk 4 (by kernel_rfl)).trans rfl
                  have f4 := gd e4
                  have hx := (hS.box (sg (hs 3 (by decide)))).penAt
                  exact ro_pure (v := .agg (pv pen0)) (wanted_none rfl) (by simp [execOp, Act.eval, e4, f4, go_sem, hx]) (sp_same (by kernel_rfl) hl hs hS (show (.agg (pv pen0) : Value) = _ from rfl)) trivial
                refine SSteps.cons (fun a w' vs σ hS hl hs hk => ?_) ?_
                · have e178 : a.tmps.getD 178 undef = (.pointer (some ⟨p, 0, none⟩) : Value) := (sk_val hk 0 (by kernel_rfl) rfl rfl).trans ((hk.1 0 (by kernel_rfl)).1)
                  have f178 := gd e178
                  have e179 : a.tmps.getD 179 undef = (.agg #[.int .i64 0, .int .i64 1] : Value) := (sk_val hk 1 (by kernel_rfl) rfl rfl).trans ((hk.1 1 (by kernel_rfl)).1)
                  have f179 := gd e179
                  have e180 : a.tmps.getD 180 undef = (.agg #[.int .i64 3, .int .i64 0, .bool false] : Value) := (sk_val hk 2 (by kernel_rfl) rfl rfl).trans ((hk.1 2 (by kernel_rfl)).1)
                  have f180 := gd e180
                  have e181 : a.tmps.getD 181 undef = (.agg (pv pen0) : Value) := (sk_val hk 3 (by kernel_rfl) rfl rfl).trans ((hk.1 3 (by kernel_rfl)).1)
                  have f181 := gd e181
                  have h1 : σ[4]? = some (.grid p 37 2 k19_5) := hs 4 (by decide)
                  have hn : σ[0]? = some .none := hs 0 (by decide)
                  exact ro_call (f := 13) (wanted_none rfl) rfl (by simp only [List.map_toArray, List.map_cons, List.map_nil, Act.eval, e178, e179, e180, e181] <;> rfl) (fun _ _ => by kernel_rfl) ((kc26 HT.out hS (sg h1)).mono fun e w2 ⟨A9, m9, c9, h2, h3⟩ => ⟨_, h2, sp_set2 4 0 (.grid p 37 2 k19_6) (.lines (.slice A9 m9 c9) g19_5) (by decide) (by kernel_rfl) (by simp) (by simp) (by decide) (by decide) hl hs (by rfl) (by rfl) (h3.place (k := 0) (by rw [List.getElem?_set_ne (by decide)]; exact sg hn)) ⟨A9, m9, c9, rfl⟩, trivial⟩)
                refine SSteps.cons (fun a w' vs σ hS hl hs hk => ?_) ?_
                · have e182 : a.tmps.getD 182 undef = vs 4 := sk_val hk 4 (by kernel_rfl) rfl rfl
                  have p182 : (fun u : Value => ∃ A m c, u = (.tuple #[.agg #[.int .i64 3, .int .i64 0, .bool false], .slice A m c, .int .i64 0] : Value)) (vs 4) := (hk.1 4 (by kernel_rfl)).1
                  have f182 := gd e182
                  obtain ⟨A9, m9, c9, q9⟩ := p182
                  have e9 := e182.trans q9
                  have f9 := gd e9
                  have h2 : σ[0]? = some (.lines (tupAt 1 (vs 4)) g19_5) := hs 0 (by decide)
                  rw [q9, show tupAt 1 (.tuple #[.agg #[.int .i64 3, .int .i64 0, .bool false], .slice A9 m9 c9, .int .i64 0] : Value) = .slice A9 m9 c9 from rfl] at h2
                  have hSS : Objs w w' ((σ ++ []).set 0 (.lines (.slice A9 m9 c9) g19_5)) := by rw [set_self (sg h2)]; exact hS
                  exact rs_run (v' := (.tuple #[.agg #[.int .i64 3, .int .i64 0, .bool false], .slice A9 m9 c9, .int .i64 0] : Value)) (w' := w') (wanted_none rfl) (by simp [execOp, Act.eval, e9, f9, go_sem]) (sp_set 0 (.lines (.slice A9 m9 c9) g19_5) (by kernel_rfl) (by simp) (by decide) hl hs (by rfl) hSS ⟨A9, m9, c9, rfl⟩)
                refine SSteps.cons (fun a w' vs σ hS hl hs hk => ?_) ?_
                · have e177 : a.tmps.getD 177 undef = vs 5 := sk_val hk 5 (by kernel_rfl) rfl rfl
                  have p177 : (fun u : Value => ∃ A m c, u = (.tuple #[.agg #[.int .i64 3, .int .i64 0, .bool false], .slice A m c, .int .i64 0] : Value)) (vs 5) := (hk.1 5 (by kernel_rfl)).1
                  have f177 := gd e177
                  obtain ⟨A9, m9, c9, q9⟩ := p177
                  have e9 := e177.trans q9
                  have f9 := gd e9
                  exact ro_pure (v := .agg #[.int .i64 3, .int .i64 0, .bool false]) (wanted_none rfl) (by simp [execOp, Act.eval, e9, f9, go_sem]) (sp_same (by kernel_rfl) hl hs hS rfl) trivial
                refine SSteps.cons (fun a w' vs σ hS hl hs hk => ?_) ?_
                · have e177 : a.tmps.getD 177 undef = vs 5 := sk_val hk 5 (by kernel_rfl) rfl rfl
                  have p177 : (fun u : Value => ∃ A m c, u = (.tuple #[.agg #[.int .i64 3, .int .i64 0, .bool false], .slice A m c, .int .i64 0] : Value)) (vs 5) := (hk.1 5 (by kernel_rfl)).1
                  have f177 := gd e177
                  obtain ⟨A9, m9, c9, q9⟩ := p177
                  have e9 := e177.trans q9
                  have f9 := gd e9
                  have h2 : σ[0]? = some (.lines (tupAt 1 (vs 5)) g19_5) := hs 0 (by decide)
                  rw [q9, show tupAt 1 (.tuple #[.agg #[.int .i64 3, .int .i64 0, .bool false], .slice A9 m9 c9, .int .i64 0] : Value) = .slice A9 m9 c9 from rfl] at h2
                  have hSS : Objs w w' ((σ ++ []).set 0 (.lines (.slice A9 m9 c9) g19_5)) := by rw [set_self (sg h2)]; exact hS
                  exact rs_run (v' := .slice A9 m9 c9) (w' := w') (wanted_none rfl) (by simp [execOp, Act.eval, e9, f9, go_sem]) (sp_set 0 (.lines (.slice A9 m9 c9) g19_5) (by kernel_rfl) (by simp) (by decide) hl hs (by rfl) hSS ⟨A9, m9, c9, rfl⟩)
                refine SSteps.cons (fun a w' vs σ hS hl hs hk => ?_) ?_
                · have e177 : a.tmps.getD 177 undef = vs 5 := sk_val hk 5 (by kernel_rfl) rfl rfl
                  have p177 : (fun u : Value => ∃ A m c, u = (.tuple #[.agg #[.int .i64 3, .int .i64 0, .bool false], .slice A m c, .int .i64 0] : Value)) (vs 5) := (hk.1 5 (by kernel_rfl)).1
                  have f177 := gd e177
                  obtain ⟨A9, m9, c9, q9⟩ := p177
                  have e9 := e177.trans q9
                  have f9 := gd e9
                  exact ro_pure (v := .int .i64 0) (wanted_none rfl) (by simp [execOp, Act.eval, e9, f9, go_sem]) (sp_same (by kernel_rfl) hl hs hS rfl) trivial
                refine SSteps.cons (fun a w' vs σ hS hl hs hk => ?_) ?_
                · have h1 : σ[1]? = some .none := hs 1 (by decide)
                  exact rs_run (v' := .pointer (some ⟨w'.heap.size, 0, none⟩)) (w' := w'.alloc (.cells #[.int .i64 0, .int .i64 0, .bool false] 25)) (wanted_none rfl) (by simp [execOp, go_sem]) (sp_set 1 (.box w'.heap.size 25 #[.int .i64 0, .int .i64 0, .bool false]) (by kernel_rfl) (by simp) (by decide) hl hs (by rfl) (hS.alloc1.place (sg h1)) ⟨_, rfl⟩)
                refine SSteps.cons (fun a w' vs σ hS hl hs hk => ?_) ?_
                · have e8 : a.tmps.getD 8 undef = vs 9 := sk_val hk 9 (by kernel_rfl) rfl rfl
                  have p8 : (fun u : Value => ∃ g, u = .pointer (some ⟨g, 0, none⟩)) (vs 9) := (hk.1 9 (by kernel_rfl)).1
                  have f8 := gd e8
                  have e183 : a.tmps.getD 183 undef = (.agg #[.int .i64 3, .int .i64 0, .bool false] : Value) := (sk_val hk 6 (by kernel_rfl) rfl rfl).trans ((hk.1 6 (by kernel_rfl)).1)
                  have f183 := gd e183
                  obtain ⟨g9, q9⟩ := p8
                  have h1 : σ[1]? = some (.box (blkOf (vs 9)) 25 #[.int .i64 0, .int .i64 0, .bool false]) := hs 1 (by decide)
                  rw [q9, show blkOf (.pointer (some ⟨g9, 0, none⟩)) = g9 from rfl] at h1
                  obtain ⟨hx, hf, hz⟩ := (hS.box (sg h1)).facts
                  exact rstep_store (w2 := ((w'.setCell ⟨g9, 0, none⟩ (.int .i64 3)).setCell ⟨g9, 1, none⟩ (.int .i64 0)).setCell ⟨g9, 2, none⟩ (.bool false)) (wanted_none rfl) rfl (by simp [execOp, Act.eval, e8, f8, e183, f183, q9, hx, hf, hz, go_sem]) (sp_set 1 (.box g9 25 #[.int .i64 3, .int .i64 0, .bool false]) (by kernel_rfl) (by simp) (by decide) hl hs (by show Ob.box (blkOf (vs 9)) 25 _ = _; rw [q9]; rfl) (hS.setBox3 (sg h1)) trivial) trivial
                refine SSteps.cons (fun a w' vs σ hS hl hs hk => ?_) ?_
                · have e184 : a.tmps.getD 184 undef = vs 7 := sk_val hk 7 (by kernel_rfl) rfl rfl
                  have p184 : (fun u : Value => ∃ A m c, u = .slice A m c) (vs 7) := (hk.1 7 (by kernel_rfl)).1
                  have f184 := gd e184
                  obtain ⟨A9, m9, c9, q9⟩ := p184
                  have e9 := e184.trans q9
                  have f9 := gd e9
                  have h2 : σ[0]? = some (.lines (vs 7) g19_5) := hs 0 (by decide)
                  rw [q9] at h2
                  have hSS : Objs w w' ((σ ++ []).set 0 (.lines (.slice A9 m9 c9) g19_5)) := by rw [set_self (sg h2)]; exact hS
                  exact rs_run (v' := .slice A9 m9 c9) (w' := w') (wanted_none rfl) (by simp [execOp, Act.eval, e9, f9, go_sem]) (sp_set 0 (.lines (.slice A9 m9 c9) g19_5) (by kernel_rfl) (by simp) (by decide) hl hs (by rfl) hSS ⟨A9, m9, c9, rfl⟩)
                refine SSteps.cons (fun a w' vs σ hS hl hs hk => ?_) ?_
                · have e185 : a.tmps.getD 185 undef = (.int .i64 0 : Value) := (sk_val hk 8 (by kernel_rfl) rfl rfl).trans ((hk.1 8 (by kernel_rfl)).1)
                  have f185 := gd e185
                  exact ro_pure (v := .int .i64 0) (wanted_none rfl) (by simp [execOp, Act.eval, e185, f185, go_sem]) (sp_same (by kernel_rfl) hl hs hS (show (.int .i64 0 : Value) = _ from rfl)) trivial
                exact SSteps.nil
              · intro vs w' hS hv
                have q0 := (show vs 0 = (.pointer (some ⟨p, 0, none⟩) : Value) from hv 0 (by decide))
                have q1 := (show vs 1 = (.agg #[.int .i64 0, .int .i64 1] : Value) from hv 1 (by decide))
                have q2 := (show vs 2 = (.agg #[.int .i64 3, .int .i64 0, .bool false] : Value) from hv 2 (by decide))
                have q3 := (show vs 3 = (.agg (pv pen0) : Value) from hv 3 (by decide))
                have q6 := (show vs 6 = (.agg #[.int .i64 3, .int .i64 0, .bool false] : Value) from hv 6 (by decide))
                have q8 := (show vs 8 = (.int .i64 0 : Value) from hv 8 (by decide))
                have q12 := (show vs 12 = (.int .i64 0 : Value) from hv 12 (by decide))
                obtain ⟨Aa, ma, ca, qa⟩ := (show ∃ A m c, vs 4 = (.tuple #[.agg #[.int .i64 3, .int .i64 0, .bool false], .slice A m c, .int .i64 0] : Value) from hv 4 (by decide))
                obtain ⟨Ab, mb, cb, qb⟩ := (show ∃ A m c, vs 5 = (.tuple #[.agg #[.int .i64 3, .int .i64 0, .bool false], .slice A m c, .int .i64 0] : Value) from hv 5 (by decide))
                obtain ⟨Ac, mc, cc, qc⟩ := (show ∃ A m c, vs 7 = .slice A m c from hv 7 (by decide))
                obtain ⟨Ad26, md26, cd26, qd⟩ := (show ∃ A m c, vs 11 = .slice A m c from hv 11 (by decide))
                obtain ⟨b8, qb8⟩ := (show ∃ g, vs 9 = .pointer (some ⟨g, 0, none⟩) from hv 9 (by decide))
                rw [qd, qb8] at hS
                have S2 := Lib.hid hS
                simp only [putL, Act.put, Nat.zero_add, Nat.reduceAdd, List.setIfInBounds_toArray, List.set_cons_succ, List.set_cons_zero, q0, q1, q2, q3, q6, q8, q12]
                clear hS hv q0 q1 q2 q3 q6 q8 q12
                simp only [qa, qb, qc, qd, qb8]
                clear qa qb qc qd qb8
                have hT1 := (show Objs w w' [.lines (.slice Ad26 md26 cd26) g19_5, .box b8 25 #[.int .i64 3, .int .i64 0, .bool false], .box b7 25 #[.int .i64 0, .int .i64 0, .bool false], .box b4 31 (pv pen0), .grid p 37 2 k19_6] from S2.out)
                obtain rfl : md26 = 0 := (hT1.linesRd' (k := 0) rfl).1.trans (by kernel_rfl)
                clear S2 SZ
                have SZ := Lib.hid hT1
                clear hT1
                go_upto_region 27 with (fail)
                refine wp_region_stage (w0 := w) (os := []) (by kernel_rfl) (by kernel_rfl) (by kernel_rfl) [] [[], [], [3], [4], [], [], [], [], []] [.lines (.slice Ad26 0 cd26) g19_5, .box b8 25 #[.int .i64 3, .int .i64 0, .bool false], .box b7 25 #[.int .i64 0, .int .i64 0, .bool false], .box b4 31 (pv pen0), .grid p 37 2 k19_6] (fun i u => match i with | 0 => u = (.pointer (some ⟨p, 0, none⟩) : Value) | 1 => u = (.agg #[.int .i64 0, .int .i64 4] : Value) | 2 => u = (.agg (pv pen0) : Value) | 3 => u = (.tuple #[.slice none 0 0, .int .i64 2] : Value) | 4 => u = (.tuple #[.slice none 0 0, .int .i64 2] : Value) | 5 => u = (.slice none 0 0 : Value) | 6 => u = (.int .i64 2 : Value) | 7 => u = (.slice none 0 0 : Value) | 8 => u = (.int .i64 2 : Value) | _ => True) (fun vs => [.lines (.slice Ad26 0 cd26) g19_5, .box b8 25 #[.int .i64 3, .int .i64 0, .bool false], .box b7 25 #[.int .i64 0, .int .i64 0, .bool false], .box b4 31 (pv pen0), .grid p 37 2 k19_6]) (by kernel_rfl) (fun vs => by rfl) SZ.out ?_ ?_
                · refine SSteps.cons (fun a w' vs σ hS hl hs hk => ?_) ?_
                  · have e1 : a.tmps.getD 1 undef = (.pointer (some ⟨p, 0, none⟩) : Value) := (sk_old hk 1 (by kernel_rfl)).trans rfl
                    have f1 := gd e1
                    exact ro_pure (v := .pointer (some ⟨p, 0, none⟩)) (wanted_none rfl) (by simp [execOp, Act.eval, e1, f1, go_sem]) (sp_same (by kernel_rfl) hl hs hS (show (.pointer (some ⟨p, 0, none⟩) : Value) = _ from rfl)) trivial
                  refine SSteps.cons (fun a w' vs σ hS hl hs hk => ?_) ?_
                  · exact ro_call (f := 43) (wanted_none rfl) rfl (by simp only [List.map_toArray, List.map_cons, List.map_nil, Act.eval] <;> rfl) (fun _ _ => by kernel_rfl) ((l19to_any 0 4 w').mono fun e w2 ⟨h1, h2⟩ => ⟨_, h1, sp_same (by kernel_rfl) hl hs (hS.bel h2) rfl, trivial⟩)
                  refine SSteps.cons (fun a w' vs σ hS hl hs hk => ?_) ?_
                  · have e4 : a.tmps.getD 4 undef = (.pointer (some ⟨b4, 0, none⟩) : Value) := (sk_old hk 4 (by kernel_rfl)).trans rfl
                    have f4 := gd e4
                    have hx := (hS.box (sg (hs 3 (by decide)))).penAt
                    exact ro_pure (v := .agg (pv pen0)) (wanted_none rfl) (by simp [execOp, Act.eval, e4, f4, go_sem, hx]) (sp_same (by kernel_rfl) hl hs hS (show (.agg (pv pen0) : Value) = _ from rfl)) trivial
                  refine SSteps.cons (fun a w' vs σ hS hl hs hk => ?_) ?_
                  · have e187 : a.tmps.getD 187 undef = (.pointer (some ⟨p, 0, none⟩) : Value) := (sk_val hk 0 (by kernel_rfl) rfl rfl).trans ((hk.1 0 (by kernel_rfl)).1)
                    have f187 := gd e187
                    have e188 : a.tmps.getD 188 undef = (.agg #[.int .i64 0, .int .i64 4] : Value) := (sk_val hk 1 (by kernel_rfl) rfl rfl).trans ((hk.1 1 (by kernel_rfl)).1)
                    have f188 := gd e188
                    have e189 : a.tmps.getD 189 undef = (.agg (pv pen0) : Value) := (sk_val hk 2 (by kernel_rfl) rfl rfl).trans ((hk.1 2 (by kernel_rfl)).1)
                    have f189 := gd e189
                    have h1 : σ[4]? = some (.grid p 37 2 k19_6) := hs 4 (by decide)
                    exact ro_call (f := 12) (wanted_none rfl) rfl (by simp only [List.map_toArray, List.map_cons, List.map_nil, Act.eval, e187, e188, e189] <;> rfl) (fun _ _ => by kernel_rfl) ((kc27 HT.out hS (sg h1)).mono fun e w2 ⟨h2, h3⟩ => ⟨_, h2, sp_same (by kernel_rfl) hl hs h3 rfl, trivial⟩)
                  refine SSteps.cons (fun a w' vs σ hS hl hs hk => ?_) ?_
                  · have e190 : a.tmps.getD 190 undef = (.tuple #[.slice none 0 0, .int .i64 2] : Value) := (sk_val hk 3 (by kernel_rfl) rfl rfl).trans ((hk.1 3 (by kernel_rfl)).1)
                    have f190 := gd e190
                    exact ro_pure (v := .tuple #[.slice none 0 0, .int .i64 2]) (wanted_none rfl) (by simp [execOp, Act.eval, e190, f190, go_sem]) (sp_same (by kernel_rfl) hl hs hS (show (.tuple #[.slice none 0 0, .int .i64 2] : Value) = _ from rfl)) trivial
                  refine SSteps.cons (fun a w' vs σ hS hl hs hk => ?_) ?_
                  · have e186 : a.tmps.getD 186 undef = (.tuple #[.slice none 0 0, .int .i64 2] : Value) := (sk_val hk 4 (by kernel_rfl) rfl rfl).trans ((hk.1 4 (by kernel_rfl)).1)
                    have f186 := gd e186
                    exact ro_pure (v := .slice none 0 0) (wanted_none rfl) (by simp [execOp, Act.eval, e186, f186, go_sem]) (sp_same (by kernel_rfl) hl hs hS (show (.slice none 0 0 : Value) = _ from rfl)) trivial
                  refine SSteps.cons (fun a w' vs σ hS hl hs hk => ?_) ?_
                  · have e186 : a.tmps.getD 186 undef = (.tuple #[.slice none 0 0, .int .i64 2] : Value) := (sk_val hk 4 (by kernel_rfl) rfl rfl).trans ((hk.1 4 (by kernel_rfl)).1)
                    have f186 := gd e186
                    exact ro_pure (v := .int .i64 2) (wanted_none rfl) (by simp [execOp, Act.eval, e186, f186, go_sem]) (sp_same (by kernel_rfl) hl hs hS (show (.int .i64 2 : Value) = _ from rfl)) trivial
                  refine SSteps.cons (fun a w' vs σ hS hl hs hk => ?_) ?_
                  · have e191 : a.tmps.getD 191 undef = (.slice none 0 0 : Value) := (sk_val hk 5 (by kernel_rfl) rfl rfl).trans ((hk.1 5 (by kernel_rfl)).1)
                    have f191 := gd e191
                    exact ro_pure (v := .slice none 0 0) (wanted_none rfl) (by simp [execOp, Act.eval, e191, f191, go_sem]) (sp_same (by kernel_rfl) hl hs hS (show (.slice none 0 0 : Value) = _ from rfl)) trivial
                  refine SSteps.cons (fun a w' vs σ hS hl hs hk => ?_) ?_
                  · have e192 : a.tmps.getD 192 undef = (.int .i64 2 : Value) := (sk_val hk 6 (by kernel_rfl) rfl rfl).trans ((hk.1 6 (by kernel_rfl)).1)
                    have f192 := gd e192
                    exact ro_pure (v := .int .i64 2) (wanted_none rfl) (by simp [execOp, Act.eval, e192, f192, go_sem]) (sp_same (by kernel_rfl) hl hs hS (show (.int .i64 2 : Value) = _ from rfl)) trivial
                  exact SSteps.nil
                · intro vs w' hS hv
                  have q0 := (show vs 0 = (.pointer (some ⟨p, 0, none⟩) : Value) from hv 0 (by decide))
                  have q1 := (show vs 1 = (.agg #[.int .i64 0, .int .i64 4] : Value) from hv 1 (by decide))
                  have q2 := (show vs 2 = (.agg (pv pen0) : Value) from hv 2 (by decide))
                  have q3 := (show vs 3 = (.tuple #[.slice none 0 0, .int .i64 2] : Value) from hv 3 (by decide))
                  have q4 := (show vs 4 = (.tuple #[.slice none 0 0, .int .i64 2] : Value) from hv 4 (by decide))
                  have q5 := (show vs 5 = (.slice none 0 0 : Value) from hv 5 (by decide))
                  have q6 := (show vs 6 = (.int .i64 2 : Value) from hv 6 (by decide))
                  have q7 := (show vs 7 = (.slice none 0 0 : Value) from hv 7 (by decide))
                  have q8 := (show vs 8 = (.int .i64 2 : Value) from hv 8 (by decide))
                  have S2 := Lib.hid hS
                  simp only [putL, Act.put, Nat.zero_add, Nat.reduceAdd, List.setIfInBounds_toArray, List.set_cons_succ, List.set_cons_zero, q0, q1, q2, q3, q4, q5, q6, q7, q8]
                  clear hS hv q0 q1 q2 q3 q4 q5 q6 q7 q8
                  have T1 := Lib.hid (show Objs w w' [.lines (.slice Ad26 0 cd26) g19_5, .box b8 25 #[.int .i64 3, .int .i64 0, .bool false], .box b7 25 #[.int .i64 0, .int .i64 0, .bool false], .box b4 31 (pv pen0), .grid p 37 2 k19_6] from S2.out)
                  clear S2 SZ
                  obtain ⟨hx7, hf7, hz7⟩ := (T1.out.box (k := 2) rfl).facts
                  obtain ⟨hx8, hf8, hz8⟩ := (T1.out.box (k := 1) rfl).facts
                  go_wp2_with fail
                  refine (show Calls Tryd.prog 46 #[.pointer (some ⟨p, 0, none⟩), .string ⟨#[46, 46, 46, 100]⟩] _ _ from (l19rowed_yes [46, 46, 46, 100] _ rfl T1.out (k := 4) rfl (by decide) (by decide) (by decide +kernel))).mono ?_
                  rintro e wrT3 ⟨rfl, hS⟩
                  have T3 := Lib.hid hS
                  clear hS T1
                  clear hx7 hf7 hz7 hx8 hf8 hz8
                  go_wp2_with fail
                  go_ret
                  exact ⟨rfl, T3.out.base⟩
end Go.Proofs.YtghahanpmcpacaaDoor

/-
  From a walk to the row: what the row's list of variables gives, what arguments look like, and a law's last step.
-/
set_option linter.unusedSimpArgs false
set_option linter.unusedVariables false
set_option linter.constructorNameAsVariable false
set_option maxRecDepth 100000
namespace Go.Proofs.YtghahanpmcpacaaDoor
open Go.ChangeShapes Go.WideShapes Go.ChangeAt Go.RowKit Go.Deep Go.WideElems

section
variable {H : Type} {enc : TypeId × Value → H}

theorem trodAll_below {P : Program} (hl : laidOutB P = true) {W W' : World} (hb : Below W.heap.size W W') {sp : Nat → Bool} : ∀ (ts : List TypeId) (vs : List Value) (ds : List (DataW H)) (ps : List MemPlace), (∀ t ∈ ts, P.readableRec t = true ∧ t < P.types.size) →
    DataW.TrodAll enc P W 0 (fun _ => true) true ts vs ds ps → (∀ x ∈ ps, x.block < W.heap.size) → (∀ x ∈ ps, sp x.block = true) → DataW.TrodAll enc P W' 0 sp true ts vs ds ps
  | [], [], [], ps, _, h, _, _ => h
  | t :: ts, v :: vs, d :: ds, ps, ht, h, hlt, hs => by
    obtain ⟨p, q, h1, h2, rfl⟩ := h
    exact ⟨p, q, Trod_stays hl (ht t (by simp)).1 (ht t (by simp)).2 h1 (fun x hx => hb.same (hlt x (by simp [hx]))) (fun x hx => hs x (by simp [hx])),
      trodAll_below hl hb ts vs ds q (fun u hu => ht u (by simp [hu])) h2 (fun x hx => hlt x (by simp [hx])) (fun x hx => hs x (by simp [hx])), rfl⟩
  | [], _ :: _, _, _, _, h, _, _ => by cases h
  | [], [], _ :: _, _, _, h, _, _ => by cases h
  | _ :: _, [], _, _, _, h, _, _ => by cases h
  | _ :: _, _ :: _, [], _, _, h, _, _ => by cases h

/-- The last step of a law: it has returned true and made memory alone. -/
theorem law_post {P : Program} {f : Func} {s : ChangeSpec} {W W' : World} {args : Array Value} {ds gs : List (DataW H)} {before : List MemPlace} {tb : TypeId} (hv : s.vars = []) (hl : laidOutB P = true)
    (hW : DataW.Whole enc P f.params.toList s.vars false W args.toList ds gs before) (hpar : ∀ t ∈ f.params.toList, P.readableRec t = true ∧ t < P.types.size)
    (hfn : gs = [] → (s.fn H (ds ++ gs)).results = [.lit (.bool true)] ∧ (s.fn H (ds ++ gs)).args = ds ∧ (s.fn H (ds ++ gs)).vars = []) (hr : f.resultTypes = #[tb]) (htb : P.underlying tb = some .bool) (hb : Below W.heap.size W W') :
    s.post enc P f false true false false W args (.bool true) W' := by
  have hlt : ∀ p ∈ before, p.block < W.heap.size := fun p hp => hW.lt p hp
  have hW' := hW
  obtain ⟨p, q, hA, hV, rfl, hfz, hnd⟩ := hW
  rw [hv] at hV
  obtain ⟨rfl, rfl⟩ := trodVars_none hV
  obtain ⟨f1, f2, f3⟩ := hfn rfl
  have hargs : ∀ sp : Nat → Bool, (∀ x ∈ p, sp x.block = true) → DataW.TrodAll enc P W' 0 sp true f.params.toList args.toList (s.fn H (ds ++ [])).args p := fun sp hs => by
    rw [f2]; exact trodAll_below hl hb _ _ _ _ hpar hA (fun x hx => hlt x (by simp [hx])) hs
  have hres : ∀ (b : Nat) (sp : Nat → Bool) (hd : Bool), DataW.TrodAll enc P W' b sp hd f.resultTypes.toList ((Value.bool true).resultList f.resultTypes.size) (s.fn H (ds ++ [])).results [] := fun b sp hd => by
    rw [f1, hr]; exact trodAll_cons_mk (shut_bool htb _) trodAll_mk0
  have hvars : ∀ sp : Nat → Bool, DataW.TrodVars enc P W' sp s.vars (s.fn H (ds ++ [])).vars [] := fun sp => by rw [hv, f3]; rfl
  have hold : ∀ x ∈ p, (fun b => decide (b < W.heap.size)) x.block = true := fun x hx => by simpa using hlt x (by simp [hx])
  refine ⟨ds, [], p ++ [], [], p, [], hW', hres _ _ _, hargs _ hold, hvars _, World.keptBut_mono (fun x hx => ⟨hx, ?_⟩) (hb.frame (· ∈ p ++ [])), fun h => by cases h⟩
  exact Or.inr (by simpa using hx)

section
variable {w : World} {base : Nat} {sp : Nat → Bool} {hd : Bool} {fuel : Nat} {cs : List Value} {x : DataW H × List MemPlace}
theorem cells_color : Tryd.prog.cellsOf 28 = 5 := by kernel_rfl
theorem cells_pen : Tryd.prog.cellsOf 31 = 11 := by kernel_rfl
theorem cells_cell : Tryd.prog.cellsOf 82 = 16 := by kernel_rfl
theorem cells_arr3 : Tryd.prog.cellsOf 80 = 3 := by kernel_rfl
theorem cells_i32 : Tryd.prog.cellsOf 21 = 1 := by kernel_rfl
theorem cells_int : Tryd.prog.cellsOf 3 = 1 := by kernel_rfl
theorem cells_u8 : Tryd.prog.cellsOf 5 = 1 := by kernel_rfl
theorem cells_kind : Tryd.prog.cellsOf 26 = 1 := by kernel_rfl
theorem cells_flags : Tryd.prog.cellsOf 29 = 1 := by kernel_rfl
/-- A field that is a number. -/
theorem num_field {P : Program} {t : TypeId} {k : IntKind} {c : Value} {y : Option (DataW H × List MemPlace)} (ht : P.underlying t = some (.int k)) (hy : y.isSome = true) (h : DataW.trod enc P w base sp hd fuel t [c] = y) : ∃ n, c = .int k n := by
  obtain ⟨z, hz⟩ := Option.isSome_iff_exists.1 hy
  obtain ⟨n, hn, _⟩ := DataW.trod_int ht (h.trans hz)
  exact ⟨n, by simpa using hn⟩
theorem trod_color (h : DataW.trod enc Tryd.prog w base sp hd fuel 28 cs = some x) : ∃ k i r g b, cs = [.int .i64 k, .int .u8 i, .int .u8 r, .int .u8 g, .int .u8 b] := by
  obtain ⟨xs, n, _, _, hlen, hxl, hf⟩ := DataW.trod_struct Tryd.underlying28 h
  rw [cells_color] at hlen
  match cs, hlen, hf with
  | [c0, c1, c2, c3, c4], _, hf =>
    have h0 : DataW.trod enc Tryd.prog w base sp hd n 26 (([c0, c1, c2, c3, c4].drop 0).take (Tryd.prog.cellsOf 26)) = xs[0]? := hf 0 _ rfl
    have h1 : DataW.trod enc Tryd.prog w base sp hd n 5 (([c0, c1, c2, c3, c4].drop 1).take (Tryd.prog.cellsOf 5)) = xs[1]? := hf 1 _ rfl
    have h2 : DataW.trod enc Tryd.prog w base sp hd n 5 (([c0, c1, c2, c3, c4].drop 2).take (Tryd.prog.cellsOf 5)) = xs[2]? := hf 2 _ rfl
    have h3 : DataW.trod enc Tryd.prog w base sp hd n 5 (([c0, c1, c2, c3, c4].drop 3).take (Tryd.prog.cellsOf 5)) = xs[3]? := hf 3 _ rfl
    have h4 : DataW.trod enc Tryd.prog w base sp hd n 5 (([c0, c1, c2, c3, c4].drop 4).take (Tryd.prog.cellsOf 5)) = xs[4]? := hf 4 _ rfl
    simp only [cells_kind, cells_u8, List.drop_zero, List.drop_succ_cons, List.take_succ_cons, List.take_zero] at h0 h1 h2 h3 h4
    obtain ⟨k, rfl⟩ := num_field Tryd.underlying26 (by simp [hxl]) h0
    obtain ⟨i, rfl⟩ := num_field Tryd.underlying5 (by simp [hxl]) h1
    obtain ⟨r, rfl⟩ := num_field Tryd.underlying5 (by simp [hxl]) h2
    obtain ⟨g, rfl⟩ := num_field Tryd.underlying5 (by simp [hxl]) h3
    obtain ⟨b, rfl⟩ := num_field Tryd.underlying5 (by simp [hxl]) h4
    exact ⟨k, i, r, g, b, rfl⟩
theorem some_of {α : Type} {y : Option α} (h : y.isSome = true) : ∃ z, y = some z := Option.isSome_iff_exists.1 h
theorem trod_pen (h : DataW.trod enc Tryd.prog w base sp hd fuel 31 cs = some x) : ∃ q : Pen, cs = (pv q).toList := by
  obtain ⟨xs, n, _, _, hlen, hxl, hf⟩ := DataW.trod_struct Tryd.underlying31 h
  rw [cells_pen] at hlen
  have h0 : DataW.trod enc Tryd.prog w base sp hd n 28 ((cs.drop 0).take (Tryd.prog.cellsOf 28)) = xs[0]? := hf 0 _ rfl
  have h1 : DataW.trod enc Tryd.prog w base sp hd n 28 ((cs.drop 5).take (Tryd.prog.cellsOf 28)) = xs[1]? := hf 1 _ rfl
  have h2 : DataW.trod enc Tryd.prog w base sp hd n 29 ((cs.drop 10).take (Tryd.prog.cellsOf 29)) = xs[2]? := hf 2 _ rfl
  obtain ⟨z0, e0⟩ := some_of (show (xs[0]?).isSome = true by simp [hxl])
  obtain ⟨z1, e1⟩ := some_of (show (xs[1]?).isSome = true by simp [hxl])
  simp only [cells_color, cells_flags] at h0 h1 h2
  obtain ⟨k, i, r, g, b, hc0⟩ := trod_color (h0.trans e0)
  obtain ⟨k', i', r', g', b', hc1⟩ := trod_color (h1.trans e1)
  match cs, hlen with
  | [c0, c1, c2, c3, c4, c5, c6, c7, c8, c9, c10], _ =>
    simp only [List.drop_zero, List.drop_succ_cons, List.take_succ_cons, List.take_zero] at h2 hc0 hc1
    obtain ⟨fl, rfl⟩ := num_field Tryd.underlying29 (by simp [hxl]) h2
    simp only [List.cons.injEq, and_true] at hc0 hc1
    obtain ⟨rfl, rfl, rfl, rfl, rfl⟩ := hc0
    obtain ⟨rfl, rfl, rfl, rfl, rfl⟩ := hc1
    exact ⟨⟨k, i, r, g, b, k', i', r', g', b', fl⟩, rfl⟩
theorem trod_arr3 (h : DataW.trod enc Tryd.prog w base sp hd fuel 80 cs = some x) : ∃ a b c, cs = [.int .i32 a, .int .i32 b, .int .i32 c] := by
  obtain ⟨xs, n, _, _, hlen, hxl, hf⟩ := DataW.trod_array Tryd.underlying80 h
  rw [cells_arr3] at hlen
  match cs, hlen with
  | [c0, c1, c2], _ =>
    have h0 := hf 0 (by omega)
    have h1 := hf 1 (by omega)
    have h2 := hf 2 (by omega)
    simp only [cells_i32, Nat.zero_mul, Nat.one_mul, Nat.mul_one, List.drop_zero, List.drop_succ_cons, List.take_succ_cons, List.take_zero] at h0 h1 h2
    obtain ⟨a, rfl⟩ := num_field Tryd.underlying21 (by simp [hxl]) h0
    obtain ⟨b, rfl⟩ := num_field Tryd.underlying21 (by simp [hxl]) h1
    obtain ⟨c, rfl⟩ := num_field Tryd.underlying21 (by simp [hxl]) h2
    exact ⟨a, b, c, rfl⟩
theorem trod_cell (h : DataW.trod enc Tryd.prog w base sp hd fuel 82 cs = some x) : ∃ q : Cell, cs = (cv q).toList := by
  obtain ⟨xs, n, _, _, hlen, hxl, hf⟩ := DataW.trod_struct Tryd.underlying82 h
  rw [cells_cell] at hlen
  have h0 : DataW.trod enc Tryd.prog w base sp hd n 21 ((cs.drop 0).take (Tryd.prog.cellsOf 21)) = xs[0]? := hf 0 _ rfl
  have h1 : DataW.trod enc Tryd.prog w base sp hd n 80 ((cs.drop 1).take (Tryd.prog.cellsOf 80)) = xs[1]? := hf 1 _ rfl
  have h2 : DataW.trod enc Tryd.prog w base sp hd n 3 ((cs.drop 4).take (Tryd.prog.cellsOf 3)) = xs[2]? := hf 2 _ rfl
  have h3 : DataW.trod enc Tryd.prog w base sp hd n 31 ((cs.drop 5).take (Tryd.prog.cellsOf 31)) = xs[3]? := hf 3 _ rfl
  obtain ⟨z1, e1⟩ := some_of (show (xs[1]?).isSome = true by simp [hxl])
  obtain ⟨z3, e3⟩ := some_of (show (xs[3]?).isSome = true by simp [hxl])
  simp only [cells_i32, cells_arr3, cells_int, cells_pen] at h0 h1 h2 h3
  obtain ⟨m0, m1, m2, hm⟩ := trod_arr3 (h1.trans e1)
  obtain ⟨q, hq⟩ := trod_pen (h3.trans e3)
  match cs, hlen with
  | [c0, c1, c2, c3, c4, c5, c6, c7, c8, c9, c10, c11, c12, c13, c14, c15], _ =>
    simp only [List.drop_zero, List.drop_succ_cons, List.take_succ_cons, List.take_zero] at h0 h2 hm hq
    obtain ⟨r, rfl⟩ := num_field Tryd.underlying21 (by simp [hxl]) h0
    obtain ⟨wd, rfl⟩ := num_field Tryd.underlying3 (by simp [hxl]) h2
    simp only [List.cons.injEq, and_true] at hm
    obtain ⟨rfl, rfl, rfl⟩ := hm
    simp only [pv, List.cons.injEq, and_true] at hq
    obtain ⟨rfl, rfl, rfl, rfl, rfl, rfl, rfl, rfl, rfl, rfl, rfl⟩ := hq
    exact ⟨⟨r, m0, m1, m2, wd, q⟩, rfl⟩
end
/-- A slice of cells that came in, at a world. -/
theorem trod_cells {w : World} {fuel : Nat} {cs : List Value} {x : DataW H × List MemPlace} {hd : Bool} (h : DataW.trod enc Tryd.prog w 0 (fun _ => true) hd fuel 53 cs = some x) : ∃ A c l, cs = [.slice A l.length c] ∧ RdC w A c l ∧ c ≤ maxLen := by
  rcases open_slice Tryd.underlying53 h with ⟨rfl, _⟩ | ⟨a, len, cap, m, n, D, Pl, rfl, _, hl, hm, hmm, _, hi⟩
  · exact ⟨none, 0, [], rfl, RdC.nil _, by simp [maxLen]⟩
  · simp only [if_true] at hmm
    subst hmm
    rw [cells_cell] at hi
    have hall : ∀ i, i < len → ∃ c : Cell, ∀ j, j < 16 → w.cell? ((a.add (i * 16)).add j) = (cv c)[j]? := by
      intro i hlt
      obtain ⟨cs', hc, ht⟩ := hi i (by omega)
      obtain ⟨_, hcl, hat⟩ := World.cells?_some hc
      obtain ⟨c, rfl⟩ := trod_cell ht
      exact ⟨c, fun j hj => by rw [hat j hj]; simp⟩
    have hl2 : ∃ l : List Cell, l.length = len ∧ ∀ i (h : i < l.length), ∀ j, j < 16 → w.cell? ((a.add (i * 16)).add j) = (cv l[i])[j]? := by
      refine ⟨(List.range len).map fun i => if h : i < len then (hall i h).choose else cell0, by simp, fun i h j hj => ?_⟩
      have hlt : i < len := by simpa using h
      simp only [List.getElem_map, List.getElem_range, hlt, dif_pos]
      exact (hall i hlt).choose_spec j hj
    obtain ⟨l, rfl, hcell⟩ := hl2
    refine ⟨some a, m, l, rfl, ⟨hl, (fun h => by cases h), fun hn => ?_⟩, hm⟩
    have h00 := hcell 0 hn 0 (by omega)
    simp only [Nat.zero_mul, Addr.add_zero', cv_get0] at h00
    obtain ⟨b, off, spot⟩ := a
    have hspot : spot = none := by
      cases spot with
      | none => rfl
      | some q => simp [World.cell?] at h00; split at h00 <;> simp at h00
    subst hspot
    refine ⟨b, off, rfl, block_lt_of_cell h00, fun j v hv => ?_⟩
    have hj : j < (flat l).length := (List.getElem?_eq_some_iff.1 hv).1
    rw [flat_length] at hj
    have hk : j / 16 < l.length := by omega
    have := hcell (j / 16) hk (j % 16) (by omega)
    rw [add_at, add_at] at this
    rw [show off + j = off + j / 16 * 16 + j % 16 by omega, this, ← hv, ← flat_at l (j / 16) (j % 16) l[j / 16] (by simp [hk]) (by omega)]
    congr 1; omega
theorem open_cells {v : Value} {w : World} {r : Reach} {b0 : Nat} {hd : Bool} {d : DataW H} {p : List MemPlace} (hv : Value.okWide Tryd.prog w r b0 53 v) (h : DataW.Trod enc Tryd.prog w 0 (fun _ => true) hd 53 v d p) : ∃ A c l, v = .slice A l.length c ∧ RdC w A c l ∧ c ≤ maxLen := by
  obtain ⟨a0, n, c, rfl⟩ := okWide_slice Tryd.underlying53 hv
  obtain ⟨fuel, hf⟩ := h
  obtain ⟨A, c', l, he, hr⟩ := trod_cells hf
  exact ⟨A, c', l, by simpa [Value.cells] using he, hr⟩
end
end Go.Proofs.YtghahanpmcpacaaDoor

/-
  What a line among the arguments looks like.
-/
set_option linter.unusedSimpArgs false
set_option linter.unusedVariables false
set_option linter.constructorNameAsVariable false
set_option maxRecDepth 100000
namespace Go.Proofs.YtghahanpmcpacaaDoor
open Go.ChangeShapes Go.WideShapes Go.ChangeAt Go.RowKit Go.Deep Go.WideElems

section
variable {H : Type} {enc : TypeId × Value → H}
theorem cells_bool : Tryd.prog.cellsOf 4 = 1 := by kernel_rfl
end
end Go.Proofs.YtghahanpmcpacaaDoor

/-
  What cursors, and slices of records, look like among the arguments.
-/
set_option linter.unusedSimpArgs false
set_option linter.unusedVariables false
set_option linter.constructorNameAsVariable false
set_option maxRecDepth 100000
namespace Go.Proofs.YtghahanpmcpacaaDoor
open Go.ChangeShapes Go.WideShapes Go.ChangeAt Go.RowKit Go.Deep Go.WideElems

section
variable {H : Type} {enc : TypeId × Value → H}
theorem cells_cursor : Tryd.prog.cellsOf 25 = 3 := by kernel_rfl
theorem trod_cursor {w : World} {base : Nat} {sp : Nat → Bool} {fuel : Nat} {cs : List Value} {x : DataW H × List MemPlace} {hd : Bool} (h : DataW.trod enc Tryd.prog w base sp hd fuel 25 cs = some x) : ∃ r c b, cs = [.int .i64 r, .int .i64 c, .bool b] := by
  obtain ⟨xs, n, _, _, hlen, hxl, hf⟩ := DataW.trod_struct Tryd.underlying25 h
  rw [cells_cursor] at hlen
  match cs, hlen, hf with
  | [c0, c1, c2], _, hf =>
    have h0 : DataW.trod enc Tryd.prog w base sp hd n 3 (([c0, c1, c2].drop 0).take (Tryd.prog.cellsOf 3)) = xs[0]? := hf 0 _ rfl
    have h1 : DataW.trod enc Tryd.prog w base sp hd n 3 (([c0, c1, c2].drop 1).take (Tryd.prog.cellsOf 3)) = xs[1]? := hf 1 _ rfl
    have h2 : DataW.trod enc Tryd.prog w base sp hd n 4 (([c0, c1, c2].drop 2).take (Tryd.prog.cellsOf 4)) = xs[2]? := hf 2 _ rfl
    obtain ⟨z2, e2⟩ := some_of (show (xs[2]?).isSome = true by simp [hxl])
    simp only [cells_int, cells_bool, List.drop_zero, List.drop_succ_cons, List.take_succ_cons, List.take_zero] at h0 h1 h2
    obtain ⟨r, rfl⟩ := num_field Tryd.underlying3 (by simp [hxl]) h0
    obtain ⟨c, rfl⟩ := num_field Tryd.underlying3 (by simp [hxl]) h1
    obtain ⟨b, hb, _⟩ := DataW.trod_bool Tryd.underlying4 (h2.trans e2)
    simp only [List.cons.injEq, and_true] at hb
    subst hb
    exact ⟨r, c, b, rfl⟩
/-- A slice of records, at a world. -/
theorem trod_recs {V : Type} [Inhabited V] {Pr : V → Prop} {w : World} {fuel : Nat} {cs : List Value} {x : DataW H × List MemPlace} {hd : Bool} {tS tE : TypeId} {k : Nat} (av : V → Array Value) (hu : Tryd.prog.underlying tS = some (.slice tE)) (hk : Tryd.prog.cellsOf tE = k) (hk0 : 0 < k) (hav : ∀ a, (av a).size = k)
    (helem : ∀ (fuel : Nat) (cs' : List Value) (x' : DataW H × List MemPlace), DataW.trod enc Tryd.prog w 0 (fun _ => true) hd fuel tE cs' = some x' → ∃ a, cs' = (av a).toList ∧ Pr a)
    (h : DataW.trod enc Tryd.prog w 0 (fun _ => true) hd fuel tS cs = some x) : ∃ (A : Option Addr) (c : Nat) (l : List V), cs = [.slice A l.length c] ∧ RdRec w A c k (l.map av) ∧ c ≤ maxLen ∧ ∀ a ∈ l, Pr a := by
  rcases open_slice hu h with ⟨rfl, _⟩ | ⟨a, len, cap, m, n, D, Pl, rfl, _, hl, hm, hmm, _, hi⟩
  · exact ⟨none, 0, [], rfl, ⟨by simp, fun _ => rfl, fun h => by simp at h⟩, by simp [maxLen], fun a ha => by simp at ha⟩
  · simp only [if_true] at hmm
    subst hmm
    rw [hk] at hi
    have hall : ∀ i, i < len → ∃ c : V, Pr c ∧ ∀ j, j < k → w.cell? ((a.add (i * k)).add j) = (av c)[j]? := by
      intro i hlt
      obtain ⟨cs', hc, ht⟩ := hi i (by omega)
      obtain ⟨_, hcl, hat⟩ := World.cells?_some hc
      obtain ⟨c, rfl, hp⟩ := helem _ _ _ ht
      exact ⟨c, hp, fun j hj => by rw [hat j hj]; simp⟩
    have hl2 : ∃ l : List V, l.length = len ∧ (∀ i (h : i < l.length), ∀ j, j < k → w.cell? ((a.add (i * k)).add j) = (av l[i])[j]?) ∧ ∀ c ∈ l, Pr c := by
      refine ⟨(List.range len).map fun i => if h : i < len then (hall i h).choose else default, by simp, fun i h j hj => ?_, fun c hc => ?_⟩
      · have hlt : i < len := by simpa using h
        simp only [List.getElem_map, List.getElem_range, hlt, dif_pos]
        exact (hall i hlt).choose_spec.2 j hj
      · obtain ⟨i, hi2, rfl⟩ := List.mem_map.1 hc
        have hlt : i < len := by simpa using hi2
        rw [dif_pos hlt]
        exact (hall i hlt).choose_spec.1
    obtain ⟨l, rfl, hcell, hpr⟩ := hl2
    refine ⟨some a, m, l, rfl, ⟨by simpa using hl, (fun h => by cases h), fun hn => ?_⟩, hm, hpr⟩
    have hn' : 0 < l.length := by simpa using hn
    have h00 := hcell 0 hn' 0 hk0
    have hsz : 0 < (av l[0]).size := by rw [hav]; exact hk0
    rw [Nat.zero_mul, Addr.add_zero', Addr.add_zero', Array.getElem?_eq_getElem hsz] at h00
    obtain ⟨b, off, spot⟩ := a
    have hspot : spot = none := by
      cases spot with
      | none => rfl
      | some q => simp [World.cell?] at h00; split at h00 <;> simp at h00
    subst hspot
    refine ⟨b, off, rfl, block_lt_of_cell h00, fun i r hr => ?_⟩
    rw [List.getElem?_map] at hr
    cases hli : l[i]? with
    | none => rw [hli] at hr; cases hr
    | some y =>
      rw [hli] at hr
      simp only [Option.map_some, Option.some.injEq] at hr
      subst hr
      obtain ⟨hil, hy⟩ := List.getElem?_eq_some_iff.1 hli
      refine recAt_of (hav y) (fun j v hv => ?_)
      have hj : j < k := by have := (List.getElem?_eq_some_iff.1 hv).1; simp [hav] at this; exact this
      have := hcell i hil j hj
      rw [add_at, add_at] at this
      rw [this, hy]
      simpa using hv
theorem open_recs {V : Type} [Inhabited V] {Pr : V → Prop} {v : Value} {w : World} {r : Reach} {b0 : Nat} {hd : Bool} {d : DataW H} {p : List MemPlace} {tS tE : TypeId} {k : Nat} (av : V → Array Value) (hu : Tryd.prog.underlying tS = some (.slice tE)) (hk : Tryd.prog.cellsOf tE = k) (hk0 : 0 < k) (hav : ∀ a, (av a).size = k)
    (helem : ∀ (fuel : Nat) (cs' : List Value) (x' : DataW H × List MemPlace), DataW.trod enc Tryd.prog w 0 (fun _ => true) hd fuel tE cs' = some x' → ∃ a, cs' = (av a).toList ∧ Pr a)
    (hv : Value.okWide Tryd.prog w r b0 tS v) (h : DataW.Trod enc Tryd.prog w 0 (fun _ => true) hd tS v d p) : ∃ (A : Option Addr) (c : Nat) (l : List V), v = .slice A l.length c ∧ RdRec w A c k (l.map av) ∧ c ≤ maxLen ∧ ∀ a ∈ l, Pr a := by
  obtain ⟨a0, n, c, rfl⟩ := okWide_slice hu hv
  obtain ⟨fuel, hf⟩ := h
  obtain ⟨A, c', l, he, hr⟩ := trod_recs av hu hk hk0 hav helem hf
  exact ⟨A, c', l, by simpa [Value.cells] using he, hr⟩
end
end Go.Proofs.YtghahanpmcpacaaDoor

/-
  What regions, and numbers with their range, look like among the arguments.
-/
set_option linter.unusedSimpArgs false
set_option linter.unusedVariables false
set_option linter.constructorNameAsVariable false
set_option maxRecDepth 100000
namespace Go.Proofs.YtghahanpmcpacaaDoor
open Go.ChangeShapes Go.WideShapes Go.ChangeAt Go.RowKit Go.Deep Go.WideElems

section
variable {H : Type} {enc : TypeId × Value → H}
def In64 (n : Int) : Prop := -9223372036854775808 ≤ n ∧ n ≤ 9223372036854775807
theorem wf_in64 {n : Int} (h : (Lit.int .i64 n).wf = true) : In64 n := by
  unfold In64
  simpa [Lit.wf, IntKind.min, IntKind.max, IntKind.bits, IntKind.signed] using h
/-- A field that is an int, with its range. -/
theorem num_fieldW {P : Program} {w : World} {base : Nat} {sp : Nat → Bool} {hd : Bool} {fuel : Nat} {t : TypeId} {k : IntKind} {c : Value} {y : Option (DataW H × List MemPlace)} (ht : P.underlying t = some (.int k)) (hy : y.isSome = true) (h : DataW.trod enc P w base sp hd fuel t [c] = y) : ∃ n, c = .int k n ∧ (Lit.int k n).wf = true := by
  obtain ⟨z, hz⟩ := Option.isSome_iff_exists.1 hy
  obtain ⟨n, hn, _, hw⟩ := DataW.trod_int ht (h.trans hz)
  exact ⟨n, by simpa using hn, hw⟩
theorem cells_region : Tryd.prog.cellsOf 23 = 2 := by kernel_rfl
theorem trod_region {w : World} {base : Nat} {sp : Nat → Bool} {fuel : Nat} {cs : List Value} {x : DataW H × List MemPlace} {hd : Bool} (h : DataW.trod enc Tryd.prog w base sp hd fuel 23 cs = some x) : ∃ r c, cs = [.int .i64 r, .int .i64 c] ∧ In64 r ∧ In64 c := by
  obtain ⟨xs, n, _, _, hlen, hxl, hf⟩ := DataW.trod_struct Tryd.underlying23 h
  rw [cells_region] at hlen
  match cs, hlen, hf with
  | [c0, c1], _, hf =>
    have h0 : DataW.trod enc Tryd.prog w base sp hd n 3 (([c0, c1].drop 0).take (Tryd.prog.cellsOf 3)) = xs[0]? := hf 0 _ rfl
    have h1 : DataW.trod enc Tryd.prog w base sp hd n 3 (([c0, c1].drop 1).take (Tryd.prog.cellsOf 3)) = xs[1]? := hf 1 _ rfl
    simp only [cells_int, List.drop_zero, List.drop_succ_cons, List.take_succ_cons, List.take_zero] at h0 h1
    obtain ⟨r, rfl, hr⟩ := num_fieldW Tryd.underlying3 (by simp [hxl]) h0
    obtain ⟨c, rfl, hc⟩ := num_fieldW Tryd.underlying3 (by simp [hxl]) h1
    exact ⟨r, c, rfl, wf_in64 hr, wf_in64 hc⟩
theorem open_region {v : Value} {w : World} {r : Reach} {b0 base : Nat} {sp : Nat → Bool} {hd : Bool} {d : DataW H} {p : List MemPlace} (hv : Value.okWide Tryd.prog w r b0 23 v) (h : DataW.Trod enc Tryd.prog w base sp hd 23 v d p) : ∃ r c, v = .agg #[.int .i64 r, .int .i64 c] ∧ In64 r ∧ In64 c := by
  obtain ⟨cs, rfl, _⟩ := okWide_struct Tryd.underlying23 hv
  obtain ⟨fuel, hf⟩ := h
  obtain ⟨r, c, he, h1, h2⟩ := trod_region hf
  exact ⟨r, c, by rw [show cs = #[.int .i64 r, .int .i64 c] from by simpa [Value.cells] using congrArg List.toArray he], h1, h2⟩
end
end Go.Proofs.YtghahanpmcpacaaDoor

/-
  What the calls of chapter 19 look like among the arguments.
-/
set_option linter.unusedSimpArgs false
set_option linter.unusedVariables false
set_option linter.constructorNameAsVariable false
set_option maxRecDepth 100000
namespace Go.Proofs.YtghahanpmcpacaaDoor
open Go.ChangeShapes Go.WideShapes Go.ChangeAt Go.RowKit Go.Deep Go.WideElems

instance : Inhabited Act19 := ⟨⟨0, 0, 0, 0, 0, 0, false, pen0⟩⟩
section
variable {H : Type} {enc : TypeId × Value → H}
theorem cells_act19 : Tryd.prog.cellsOf 33 = 18 := by kernel_rfl
theorem trod_act19 {w : World} {base : Nat} {sp : Nat → Bool} {fuel : Nat} {cs : List Value} {x : DataW H × List MemPlace} {hd : Bool} (h : DataW.trod enc Tryd.prog w base sp hd fuel 33 cs = some x) : ∃ a : Act19, cs = (av19 a).toList ∧ In64 a.n := by
  obtain ⟨xs, n, _, _, hlen, hxl, hf⟩ := DataW.trod_struct Tryd.underlying33 h
  rw [cells_act19] at hlen
  have h0 : DataW.trod enc Tryd.prog w base sp hd n 3 ((cs.drop 0).take (Tryd.prog.cellsOf 3)) = xs[0]? := hf 0 _ rfl
  have h1 : DataW.trod enc Tryd.prog w base sp hd n 3 ((cs.drop 1).take (Tryd.prog.cellsOf 3)) = xs[1]? := hf 1 _ rfl
  have h2 : DataW.trod enc Tryd.prog w base sp hd n 23 ((cs.drop 2).take (Tryd.prog.cellsOf 23)) = xs[2]? := hf 2 _ rfl
  have h3 : DataW.trod enc Tryd.prog w base sp hd n 25 ((cs.drop 4).take (Tryd.prog.cellsOf 25)) = xs[3]? := hf 3 _ rfl
  have h4 : DataW.trod enc Tryd.prog w base sp hd n 31 ((cs.drop 7).take (Tryd.prog.cellsOf 31)) = xs[4]? := hf 4 _ rfl
  obtain ⟨z2, e2⟩ := some_of (show (xs[2]?).isSome = true by simp [hxl])
  obtain ⟨z3, e3⟩ := some_of (show (xs[3]?).isSome = true by simp [hxl])
  obtain ⟨z4, e4⟩ := some_of (show (xs[4]?).isSome = true by simp [hxl])
  simp only [cells_int, cells_cursor, cells_region, cells_pen] at h0 h1 h2 h3 h4
  obtain ⟨tp, bt, hg, -, -⟩ := trod_region (h2.trans e2)
  obtain ⟨r, c, b, hm⟩ := trod_cursor (h3.trans e3)
  obtain ⟨q, hq⟩ := trod_pen (h4.trans e4)
  match cs, hlen with
  | [c0, c1, c2, c3, c4, c5, c6, c7, c8, c9, c10, c11, c12, c13, c14, c15, c16, c17], _ =>
    simp only [List.drop_zero, List.drop_succ_cons, List.take_succ_cons, List.take_zero] at h0 h1 hm hg hq
    obtain ⟨wh, rfl⟩ := num_field Tryd.underlying3 (by simp [hxl]) h0
    obtain ⟨nn, rfl, hnn⟩ := num_fieldW Tryd.underlying3 (by simp [hxl]) h1
    simp only [List.cons.injEq, and_true] at hm
    obtain ⟨rfl, rfl, rfl⟩ := hm
    simp only [List.cons.injEq, and_true] at hg
    obtain ⟨rfl, rfl⟩ := hg
    simp only [pv, List.cons.injEq, and_true] at hq
    obtain ⟨rfl, rfl, rfl, rfl, rfl, rfl, rfl, rfl, rfl, rfl, rfl⟩ := hq
    exact ⟨⟨wh, nn, tp, bt, r, c, b, q⟩, rfl, wf_in64 hnn⟩
theorem open_acts19 {v : Value} {w : World} {r : Reach} {b0 : Nat} {hd : Bool} {d : DataW H} {p : List MemPlace} (hv : Value.okWide Tryd.prog w r b0 67 v) (h : DataW.Trod enc Tryd.prog w 0 (fun _ => true) hd 67 v d p) : ∃ (A : Option Addr) (c : Nat) (l : List Act19), v = .slice A l.length c ∧ RdRec w A c 18 (l.map av19) ∧ c ≤ maxLen ∧ ∀ a ∈ l, In64 a.n :=
  open_recs (Pr := fun a => In64 a.n) av19 Tryd.underlying67 cells_act19 (by decide) av19_size (fun fuel cs' x' h => trod_act19 h) hv h
end
end Go.Proofs.YtghahanpmcpacaaDoor

/-
  What the rows' list gives: the program's two tables lie in their blocks. And the pieces that every card of this seat asks.
-/
set_option linter.unusedSimpArgs false
set_option linter.unusedVariables false
set_option linter.constructorNameAsVariable false
set_option maxRecDepth 100000
namespace Go.Proofs.YtghahanpmcpacaaDoor
open Go.ChangeShapes Go.WideShapes Go.ChangeAt Go.RowKit Go.Deep Go.WideElems

theorem own_knob : ownKnob Tryd.prog.godebug = none := by kernel_rfl
theorem laid_out : laidOutB Tryd.prog = true := by kernel_rfl
def pairData {H : Type} (x : Int × Int) : DataW H := .agg [.lit (.int .i32 x.1), .lit (.int .i32 x.2)]
theorem cells_pair : Tryd.prog.cellsOf 136 = 2 := by kernel_rfl
section
variable {H : Type} {enc : TypeId × Value → H} {w : World} {base : Nat} {sp : Nat → Bool} {hd : Bool} {fuel : Nat} {cs : List Value}
theorem num_lit {t : TypeId} {c : Value} {n : Int} {p : List MemPlace} (ht : Tryd.prog.underlying t = some (.int .i32)) (h : DataW.trod enc Tryd.prog w base sp hd fuel t [c] = some (.lit (.int .i32 n), p)) : c = .int .i32 n := by
  obtain ⟨m, hm, hx, _⟩ := DataW.trod_int ht h
  simp only [Prod.mk.injEq, DataW.lit.injEq, Lit.int.injEq, true_and] at hx
  simp only [List.cons.injEq, and_true] at hm
  rw [hm, hx.1]
theorem trod_pair {x : Int × Int} {p : List MemPlace} (h : DataW.trod enc Tryd.prog w base sp hd fuel 136 cs = some (pairData x, p)) : cs = [.int .i32 x.1, .int .i32 x.2] := by
  obtain ⟨xs, n, _, hx, hlen, hxl, hf⟩ := DataW.trod_array Tryd.underlying136 h
  rw [cells_pair] at hlen
  match cs, hlen, xs, hxl, hf, hx with
  | [c0, c1], _, [y0, y1], _, hf, hx =>
    have h0 := hf 0 (by omega)
    have h1 := hf 1 (by omega)
    simp only [cells_i32, Nat.zero_mul, Nat.one_mul, List.drop_zero, List.drop_succ_cons, List.take_succ_cons, List.take_zero, List.getElem?_cons_zero, List.getElem?_cons_succ] at h0 h1
    simp only [pairData, List.map_cons, List.map_nil, Prod.mk.injEq, DataW.agg.injEq, List.cons.injEq, and_true] at hx
    obtain ⟨y0a, y0b⟩ := y0
    obtain ⟨y1a, y1b⟩ := y1
    obtain ⟨⟨e0, e1⟩, _⟩ := hx
    simp only at e0 e1
    subst e0 e1
    rw [num_lit Tryd.underlying21 h0, num_lit Tryd.underlying21 h1]
theorem trod_table {t : TypeId} {tab : List (Int × Int)} {p : List MemPlace} (ht : Tryd.prog.underlying t = some (.array tab.length 136)) (h : DataW.trod enc Tryd.prog w base sp hd fuel t cs = some (.agg (tab.map pairData), p)) :
    ∀ k, k < tab.length → cs[k * 2]? = some (.int .i32 (loOf tab k)) ∧ cs[k * 2 + 1]? = some (.int .i32 (hiOf tab k)) := by
  obtain ⟨xs, n, _, hx, hlen, hxl, hf⟩ := DataW.trod_array ht h
  intro k hk
  have hkf := hf k hk
  rw [cells_pair] at hkf
  have hk2 : k < xs.length := by omega
  rw [List.getElem?_eq_getElem hk2] at hkf
  simp only [Prod.mk.injEq, DataW.agg.injEq] at hx
  have he : xs[k].1 = pairData tab[k] := by
    have := congrArg (fun l => l[k]?) hx.1
    simp only [List.getElem?_map, List.getElem?_eq_getElem hk, List.getElem?_eq_getElem hk2, Option.map_some, Option.some.injEq] at this
    exact this.symm
  have hp := trod_pair (x := tab[k]) (p := xs[k].2) (by rw [hkf, ← he])
  have g0 := congrArg (fun l => l[0]?) hp
  have g1 := congrArg (fun l => l[1]?) hp
  simp only [List.getElem?_take, List.getElem?_drop, List.getElem?_cons_zero, List.getElem?_cons_succ, Nat.add_zero] at g0 g1
  simp only [loOf, hiOf, List.getD_eq_getElem?_getD, List.getElem?_eq_getElem hk, Option.getD_some]
  exact ⟨by simpa using g0, by simpa using g1⟩
end
theorem pairs_of {W : World} {name : String} {g : Nat} {t : TypeId} {tab : List (Int × Int)} {cs : Array Value} {fuel : Nat} {p : List MemPlace} {base : Nat} {sp : Nat → Bool} {hd : Bool} {H : Type} {enc : TypeId × Value → H} (hg : Tryd.prog.globalNamed name = some g) (ht : Tryd.prog.underlying t = some (.array tab.length 136))
    (hv : W.var? Tryd.prog name = some cs) (h : DataW.trod enc Tryd.prog W base sp hd fuel t cs.toList = some (.agg (tab.map pairData), p)) (hn : 0 < tab.length) : Pairs W g tab.length (loOf tab) (hiOf tab) := by
  have hc := World.var?_cell hg hv
  have htb := trod_table ht h
  refine ⟨?_, fun k hk => ?_⟩
  · have := (htb 0 hn).1
    have h0 := hc 0
    simp only [Nat.zero_mul, Array.getElem?_toList] at this
    rw [this] at h0
    exact block_lt_of_cell h0
  · obtain ⟨h1, h2⟩ := htb k hk
    rw [hc, hc]
    exact ⟨by simpa using h1, by simpa using h2⟩
theorem tabs_of {W : World} (h : laidMetH Tryd.prog Rows.regionNilRow.laid W) : Tabs W := by
  have h' : laidMet Tryd.prog Rows.regionNilRow.laid W := h
  obtain ⟨ps, ⟨g, t, cs, fuel, p, q, hg, ht, hv, hd, ⟨g2, t2, cs2, fuel2, p2, q2, hg2, ht2, hv2, hd2, _⟩, _⟩, _⟩ := h'
  have e1 : Tryd.prog.globalNamed "scrollback/width.marks" = some 0 := by kernel_rfl
  have e2 : Tryd.prog.globalNamed "scrollback/width.wide" = some 1 := by kernel_rfl
  obtain rfl := Option.some.inj (e1.symm.trans hg)
  obtain rfl := Option.some.inj (e2.symm.trans hg2)
  have f1 : (Tryd.prog.globals[0]?).map (·.type) = some 137 := by kernel_rfl
  have f2 : (Tryd.prog.globals[1]?).map (·.type) = some 138 := by kernel_rfl
  obtain rfl := Option.some.inj (f1.symm.trans ht)
  obtain rfl := Option.some.inj (f2.symm.trans ht2)
  exact ⟨pairs_of (tab := marksTab) e1 Tryd.underlying137 hv hd (by decide), pairs_of (tab := wideTab) e2 Tryd.underlying138 hv2 hd2 (by decide)⟩
/-- A world for the witnesses: the tables hold what their initialisers lay. -/
def setTab (n : Nat) (tab : List (Int × Int)) (h : Array Obj) : Array Obj := h.modify n fun
  | .cells _ t frozen => .cells (tab.flatMap fun x => [Value.int .i32 x.1, Value.int .i32 x.2]).toArray t frozen
  | o => o
noncomputable def laidWorld (os : Os) : World :=
  { World.holding Tryd.prog os ⟨#[], #[], []⟩ with heap := setTab 1 wideTab (setTab 0 marksTab (World.holding Tryd.prog os ⟨#[], #[], []⟩).heap) }
end Go.Proofs.YtghahanpmcpacaaDoor
