/-
  Part 4 of the texts on which the proofs of this seat stand: each part says ahead of it what it shows.
-/
import Derived.Test.YtjligfbaljnhnaaDoorM3

/-
  New: grids of empty cells.
-/
set_option linter.unusedSimpArgs false
set_option linter.unusedVariables false
namespace Go.Proofs.YtjligfbaljnhnaaDoor
open Go.RowKit

/-- The slice in a line's value; the block that a slice, a pointer stands in. -/
def lineV : Value → Value
  | .agg a => a.getD 0 undef
  | v => v
def blkOf : Value → Nat
  | .slice (some ad) _ _ => ad.block
  | .pointer (some ad) => ad.block
  | _ => 0
set_option maxRecDepth 100000 in
set_option maxHeartbeats 4000000 in
theorem gridNew_yes (rows cols : Nat) (h1 : 1 ≤ rows) (h2 : rows ≤ 1000) (h3 : 1 ≤ cols) (h4 : cols ≤ 1000) (w0 w : World) (os : List Ob) (hS : Objs w0 w os) :
    Calls Tryd.prog 16 #[.int .i64 rows, .int .i64 cols] w fun e w' => ∃ p, e = .returned (.tuple #[.pointer (some ⟨p, 0, none⟩), .int .i64 0]) ∧ Objs w0 w' (.grid p 35 cols (List.replicate rows ((List.replicate cols (blank pen0)), false)) :: os) := by
  have S0 := Lib.hid hS
  clear hS
  go_enter Tryd.func16, Tryd.ntmps16
  go_wp2_with fail
  refine at_objsC S0.out.alloc1 (fun W S1 => ?_)
  generalize w.heap.size = p at S1 ⊢
  have S1 := Lib.hid S1
  clear S0
  go_loopw [25] (fun x wr => ∃ (k : Nat) (v : Value), k ≤ rows ∧ x = .int .i64 k ∧ Objs w0 wr (.lines v (List.replicate k ((List.replicate cols (blank pen0)), false)) :: .box p 35 #[.int .i64 ↑cols, v] :: os)) (fun x _ => rows - (intOf x).toNat)
  case atStart => exact ⟨0, _, Nat.zero_le _, rfl, S1.out.nilLines⟩
  case round =>
    obtain ⟨k, v, hk, rfl, hS⟩ := hrel
    have S := Lib.hid hS
    clear hS
    by_cases hlt : k < rows
    · go_upto_region 6 with (fail)
      refine wp_region_stage (w0 := w0) (os := os) (by kernel_rfl) (by kernel_rfl) (by kernel_rfl) [(0, 7, [7], fun vs => .cells (lineV (vs 7)) (List.replicate cols (blank pen0))), (1, 8, [7, 8], fun vs => .box (blkOf (vs 8)) 71 #[lineV (vs 7), .bool false]), (2, 9, [9], fun vs => .lines (vs 9) (List.replicate (k + 1) ((List.replicate cols (blank pen0)), false))), (0, 9, [], fun vs => .none), (3, 12, [9], fun vs => .box p 35 #[.int .i64 ↑cols, vs 9])] [[], [], [], [], [3], [], [], [0], [1], [0, 1, 2], [], [], [3]] [.none, .none, .lines v (List.replicate k ((List.replicate cols (blank pen0)), false)), .box p 35 #[.int .i64 ↑cols, v]] (fun i u => match i with | 0 => u = (.pointer (some ⟨p, 0, none⟩) : Value) | 1 => u = (.pointer (some ⟨p, 0, none⟩) : Value) | 2 => u = (.pointer (some ⟨p, 0, none⟩) : Value) | 3 => u = (.pointer (some ⟨p, 1, none⟩) : Value) | 4 => u = (v : Value) | 5 => u = (.int .i64 ↑cols : Value) | 6 => u = (.agg (pv pen0) : Value) | 7 => ∃ x, u = .agg #[x, .bool false] | 8 => ∃ g, u = .slice (some ⟨g, 0, none⟩) 1 1 | 9 => ∃ A n c, u = .slice A n c | 10 => u = (.pointer (some ⟨p, 0, none⟩) : Value) | 11 => u = (.pointer (some ⟨p, 1, none⟩) : Value) | 12 => True | _ => True) (fun vs => [.none, .box (blkOf (vs 8)) 71 #[lineV (vs 7), .bool false], .lines (vs 9) (List.replicate (k + 1) ((List.replicate cols (blank pen0)), false)), .box p 35 #[.int .i64 ↑cols, vs 9]]) (by kernel_rfl) (fun vs => by rfl) S.out.pad.pad ?_ ?_
      · refine SSteps.cons (fun a w' vs σ hS hl hs hk => ?_) ?_
        · have e6 : a.tmps.getD 6 undef = (.pointer (some ⟨p, 0, none⟩) : Value) := (sk_old hk 6 (by kernel_rfl)).trans rfl
          have f6 := gd e6
          exact ro_pure (v := .pointer (some ⟨p, 0, none⟩)) (wanted_none rfl) (by simp [execOp, Act.eval, e6, f6, go_sem]) (sp_same (by kernel_rfl) hl hs hS (show (.pointer (some ⟨p, 0, none⟩) : Value) = _ from rfl)) trivial
        refine SSteps.cons (fun a w' vs σ hS hl hs hk => ?_) ?_
        · have e6 : a.tmps.getD 6 undef = (.pointer (some ⟨p, 0, none⟩) : Value) := (sk_old hk 6 (by kernel_rfl)).trans rfl
          have f6 := gd e6
          exact ro_pure (v := .pointer (some ⟨p, 0, none⟩)) (wanted_none rfl) (by simp [execOp, Act.eval, e6, f6, go_sem]) (sp_same (by kernel_rfl) hl hs hS (show (.pointer (some ⟨p, 0, none⟩) : Value) = _ from rfl)) trivial
        refine SSteps.cons (fun a w' vs σ hS hl hs hk => ?_) ?_
        · have e28 : a.tmps.getD 28 undef = (.pointer (some ⟨p, 0, none⟩) : Value) := (sk_val hk 1 (by kernel_rfl) rfl rfl).trans ((hk.1 1 (by kernel_rfl)).1)
          have f28 := gd e28
          exact ro_pure (v := .pointer (some ⟨p, 0, none⟩)) (wanted_none rfl) (by simp [execOp, Act.eval, e28, f28, go_sem]) (sp_same (by kernel_rfl) hl hs hS (show (.pointer (some ⟨p, 0, none⟩) : Value) = _ from rfl)) trivial
        refine SSteps.cons (fun a w' vs σ hS hl hs hk => ?_) ?_
        · have e29 : a.tmps.getD 29 undef = (.pointer (some ⟨p, 0, none⟩) : Value) := (sk_val hk 2 (by kernel_rfl) rfl rfl).trans ((hk.1 2 (by kernel_rfl)).1)
          have f29 := gd e29
          exact ro_pure (v := .pointer (some ⟨p, 1, none⟩)) (wanted_none rfl) (by simp [execOp, Act.eval, e29, f29, go_sem]) (sp_same (by kernel_rfl) hl hs hS (show (.pointer (some ⟨p, 1, none⟩) : Value) = _ from rfl)) trivial
        refine SSteps.cons (fun a w' vs σ hS hl hs hk => ?_) ?_
        · have e30 : a.tmps.getD 30 undef = (.pointer (some ⟨p, 1, none⟩) : Value) := (sk_val hk 3 (by kernel_rfl) rfl rfl).trans ((hk.1 3 (by kernel_rfl)).1)
          have f30 := gd e30
          have hx := (hS.box (sg (hs 3 (by decide)))).cell
          exact ro_pure (v := v) (wanted_none rfl) (by simp [execOp, Act.eval, e30, f30, go_sem, hx]) (sp_same (by kernel_rfl) hl hs hS (show (v : Value) = _ from rfl)) trivial
        refine SSteps.cons (fun a w' vs σ hS hl hs hk => ?_) ?_
        · have e1 : a.tmps.getD 1 undef = (.int .i64 ↑cols : Value) := (sk_old hk 1 (by kernel_rfl)).trans rfl
          have f1 := gd e1
          exact ro_pure (v := .int .i64 ↑cols) (wanted_none rfl) (by simp [execOp, Act.eval, e1, f1, go_sem]) (sp_same (by kernel_rfl) hl hs hS (show (.int .i64 ↑cols : Value) = _ from rfl)) trivial
        refine SSteps.cons (fun a w' vs σ hS hl hs hk => ?_) ?_
        · exact ro_pure (v := .agg (pv pen0)) (wanted_none rfl) (by simp [execOp, Act.eval, go_sem, pen0]) (sp_same (by kernel_rfl) hl hs hS (show (.agg (pv pen0) : Value) = _ from rfl)) trivial
        refine SSteps.cons (fun a w' vs σ hS hl hs hk => ?_) ?_
        · have e32 : a.tmps.getD 32 undef = (.int .i64 ↑cols : Value) := (sk_val hk 5 (by kernel_rfl) rfl rfl).trans ((hk.1 5 (by kernel_rfl)).1)
          have f32 := gd e32
          have e33 : a.tmps.getD 33 undef = (.agg (pv pen0) : Value) := (sk_val hk 6 (by kernel_rfl) rfl rfl).trans ((hk.1 6 (by kernel_rfl)).1)
          have f33 := gd e33
          have h0 : σ[0]? = some .none := hs 0 (by decide)
          exact ro_call (f := 53) (wanted_none rfl) rfl (by simp only [List.map_toArray, List.map_cons, List.map_nil, Act.eval, e32, e33] <;> rfl) (fun _ _ => by kernel_rfl) ((gridblanks_any cols (by omega) pen0 w0 w' _ hS).mono fun e w2 ⟨x, h1, h2⟩ => ⟨_, h1, sp_set 0 (.cells x (List.replicate cols (blank pen0))) (by kernel_rfl) (by simp) (by decide) hl hs (by rfl) (h2.place (sg h0)) ⟨x, rfl⟩, trivial⟩)
        refine SSteps.cons (fun a w' vs σ hS hl hs hk => ?_) ?_
        · have e34 : a.tmps.getD 34 undef = vs 7 := sk_val hk 7 (by kernel_rfl) rfl rfl
          have p34 : (fun u : Value => ∃ x, u = .agg #[x, .bool false]) (vs 7) := (hk.1 7 (by kernel_rfl)).1
          have f34 := gd e34
          obtain ⟨x, hx⟩ := p34
          have e9 := e34.trans hx
          have f9 := gd e9
          have h1 : σ[1]? = some .none := hs 1 (by decide)
          exact rs_run (wanted_none rfl) (exec_bsl rfl (by simp [Act.eval, e9, f9]) (run_bsl x false w')) (sp_set 1 (.box w'.heap.size 71 #[x, .bool false]) (by kernel_rfl) (by simp) (by decide) hl hs (by show Ob.box (blkOf (.slice (some ⟨w'.heap.size, 0, none⟩) 1 1)) 71 #[lineV (vs 7), .bool false] = _; rw [hx]; rfl) (hS.alloc1.place (sg h1)) ⟨_, rfl⟩)
        refine SSteps.cons (fun a w' vs σ hS hl hs hk => ?_) ?_
        · have e31 : a.tmps.getD 31 undef = (v : Value) := (sk_val hk 4 (by kernel_rfl) rfl rfl).trans ((hk.1 4 (by kernel_rfl)).1)
          have f31 := gd e31
          have e35 : a.tmps.getD 35 undef = vs 8 := sk_val hk 8 (by kernel_rfl) rfl rfl
          have p35 : (fun u : Value => ∃ g, u = .slice (some ⟨g, 0, none⟩) 1 1) (vs 8) := (hk.1 8 (by kernel_rfl)).1
          have f35 := gd e35
          have h2 : σ[2]? = some (.lines v (List.replicate k ((List.replicate cols (blank pen0)), false))) := hs 2 (by decide)
          have h0 : σ[0]? = some (.cells (lineV (vs 7)) (List.replicate cols (blank pen0))) := hs 0 (by decide)
          have h1 : σ[1]? = some (.box (blkOf (vs 8)) 71 #[lineV (vs 7), .bool false]) := hs 1 (by decide)
          obtain ⟨g8, hg8⟩ := p35
          rw [hg8, show blkOf (.slice (some ⟨g8, 0, none⟩) 1 1) = g8 from rfl] at h1
          obtain ⟨v9, w9, hr, hS2, A9, c9, hv9⟩ := run_appL hS (k := 2) (j := 0) (ad := ⟨g8, 0, none⟩) (c := 1) (s := false) (sg h2) (sg h0) (by decide) (by rw [(hS.box (sg h1)).cell]; rfl) (by rw [add_at, (hS.box (sg h1)).cell]; rfl) (by simp; omega) 33
          rw [← List.replicate_succ'] at hS2
          exact rs_run (wanted_none rfl) (exec_app rfl (by simp only [Act.eval]; exact e31) (by simp only [Act.eval]; exact e35.trans hg8) hr) (sp_set2 2 0 (.lines v9 (List.replicate (k + 1) ((List.replicate cols (blank pen0)), false))) .none (by decide) (by kernel_rfl) (by simp) (by simp) (by decide) (by decide) hl hs (by rfl) (by rfl) hS2 ⟨A9, _, c9, hv9⟩)
        refine SSteps.cons (fun a w' vs σ hS hl hs hk => ?_) ?_
        · have e27 : a.tmps.getD 27 undef = (.pointer (some ⟨p, 0, none⟩) : Value) := (sk_val hk 0 (by kernel_rfl) rfl rfl).trans ((hk.1 0 (by kernel_rfl)).1)
          have f27 := gd e27
          exact ro_pure (v := .pointer (some ⟨p, 0, none⟩)) (wanted_none rfl) (by simp [execOp, Act.eval, e27, f27, go_sem]) (sp_same (by kernel_rfl) hl hs hS (show (.pointer (some ⟨p, 0, none⟩) : Value) = _ from rfl)) trivial
        refine SSteps.cons (fun a w' vs σ hS hl hs hk => ?_) ?_
        · have e37 : a.tmps.getD 37 undef = (.pointer (some ⟨p, 0, none⟩) : Value) := (sk_val hk 10 (by kernel_rfl) rfl rfl).trans ((hk.1 10 (by kernel_rfl)).1)
          have f37 := gd e37
          exact ro_pure (v := .pointer (some ⟨p, 1, none⟩)) (wanted_none rfl) (by simp [execOp, Act.eval, e37, f37, go_sem]) (sp_same (by kernel_rfl) hl hs hS (show (.pointer (some ⟨p, 1, none⟩) : Value) = _ from rfl)) trivial
        refine SSteps.cons (fun a w' vs σ hS hl hs hk => ?_) ?_
        · have e38 : a.tmps.getD 38 undef = (.pointer (some ⟨p, 1, none⟩) : Value) := (sk_val hk 11 (by kernel_rfl) rfl rfl).trans ((hk.1 11 (by kernel_rfl)).1)
          have f38 := gd e38
          have e36 : a.tmps.getD 36 undef = vs 9 := sk_val hk 9 (by kernel_rfl) rfl rfl
          have p36 : (fun u : Value => ∃ A n c, u = .slice A n c) (vs 9) := (hk.1 9 (by kernel_rfl)).1
          have f36 := gd e36
          have h3 : σ[3]? = some (.box p 35 #[.int .i64 ↑cols, v]) := hs 3 (by decide)
          obtain ⟨hx, hf, hz⟩ := (hS.box (sg h3)).facts
          obtain ⟨A9, n9, c9, q9⟩ := p36
          exact rstep_store (w2 := w'.setCell ⟨p, 1, none⟩ (.slice A9 n9 c9)) (wanted_none rfl) rfl (by simp [execOp, Act.eval, e38, f38, e36, f36, q9, hx, hf, hz, go_sem]) (sp_set 3 (.box p 35 #[.int .i64 ↑cols, vs 9]) (by kernel_rfl) (by simp) (by decide) hl hs (by rfl) (by rw [q9]; exact hS.setBox 3 (sg h3)) trivial) trivial
        exact SSteps.nil
      · intro vs w' hS hv
        have q0 := (show vs 0 = (.pointer (some ⟨p, 0, none⟩) : Value) from hv 0 (by decide))
        have q1 := (show vs 1 = (.pointer (some ⟨p, 0, none⟩) : Value) from hv 1 (by decide))
        have q2 := (show vs 2 = (.pointer (some ⟨p, 0, none⟩) : Value) from hv 2 (by decide))
        have q3 := (show vs 3 = (.pointer (some ⟨p, 1, none⟩) : Value) from hv 3 (by decide))
        have q4 := (show vs 4 = (v : Value) from hv 4 (by decide))
        have q5 := (show vs 5 = (.int .i64 ↑cols : Value) from hv 5 (by decide))
        have q6 := (show vs 6 = (.agg (pv pen0) : Value) from hv 6 (by decide))
        have q10 := (show vs 10 = (.pointer (some ⟨p, 0, none⟩) : Value) from hv 10 (by decide))
        have q11 := (show vs 11 = (.pointer (some ⟨p, 1, none⟩) : Value) from hv 11 (by decide))
        have S2 := Lib.hid hS
        simp only [putL, Act.put, Nat.zero_add, Nat.reduceAdd, List.setIfInBounds_toArray, List.set_cons_succ, List.set_cons_zero, q0, q1, q2, q3, q4, q5, q6, q10, q11]
        clear hS hv q0 q1 q2 q3 q4 q5 q6 q10 q11
        go_wp2_with fail
        go_roundw
        case rel => exact ⟨k + 1, vs 9, by omega, by go_num, (S2.out.del 0).del 0⟩
        case measure => simp [intOf]; omega
    · obtain rfl : k = rows := by omega
      have SG := Lib.hid (S.out.closeGrid (k := 0) rfl)
      clear S S1
      go_wp2_with fail
      go_ret2
      exact ⟨p, rfl, SG.out⟩
set_option maxRecDepth 100000 in
set_option maxHeartbeats 4000000 in
theorem r14New_any (rows cols : Nat) (h2 : rows ≤ 1000) (h4 : cols ≤ 1000) (w0 w : World) (os : List Ob) (hS : Objs w0 w os) :
    Calls Tryd.prog 23 #[.int .i64 rows, .int .i64 cols] w fun e w' => ∃ p, e = .returned (.pointer (some ⟨p, 0, none⟩)) ∧ Objs w0 w' (.grid p 48 cols (List.replicate rows ((List.replicate cols (blank pen0)), false)) :: os) := by
  have S0 := Lib.hid hS
  clear hS
  go_enter Tryd.func23, Tryd.ntmps23
  go_wp2_with fail
  refine at_objsC S0.out.alloc1 (fun W S1 => ?_)
  generalize w.heap.size = p at S1 ⊢
  have S1 := Lib.hid S1
  clear S0
  go_loopw [6] (fun x wr => ∃ (k : Nat) (v : Value), k ≤ rows ∧ x = .int .i64 k ∧ Objs w0 wr (.lines v (List.replicate k ((List.replicate cols (blank pen0)), false)) :: .box p 48 #[.int .i64 ↑cols, v] :: os)) (fun x _ => rows - (intOf x).toNat)
  case atStart => exact ⟨0, _, Nat.zero_le _, rfl, S1.out.nilLines⟩
  case round =>
    obtain ⟨k, v, hk, rfl, hS⟩ := hrel
    have S := Lib.hid hS
    clear hS
    by_cases hlt : k < rows
    · go_upto_region 5 with (fail)
      refine wp_region_stage (w0 := w0) (os := os) (by kernel_rfl) (by kernel_rfl) (by kernel_rfl) [(0, 7, [7], fun vs => .cells (lineV (vs 7)) (List.replicate cols (blank pen0))), (1, 8, [7, 8], fun vs => .box (blkOf (vs 8)) 71 #[lineV (vs 7), .bool false]), (2, 9, [9], fun vs => .lines (vs 9) (List.replicate (k + 1) ((List.replicate cols (blank pen0)), false))), (0, 9, [], fun vs => .none), (3, 12, [9], fun vs => .box p 48 #[.int .i64 ↑cols, vs 9])] [[], [], [], [], [3], [], [], [0], [1], [0, 1, 2], [], [], [3]] [.none, .none, .lines v (List.replicate k ((List.replicate cols (blank pen0)), false)), .box p 48 #[.int .i64 ↑cols, v]] (fun i u => match i with | 0 => u = (.pointer (some ⟨p, 0, none⟩) : Value) | 1 => u = (.pointer (some ⟨p, 0, none⟩) : Value) | 2 => u = (.pointer (some ⟨p, 0, none⟩) : Value) | 3 => u = (.pointer (some ⟨p, 1, none⟩) : Value) | 4 => u = (v : Value) | 5 => u = (.int .i64 ↑cols : Value) | 6 => u = (.agg (pv pen0) : Value) | 7 => ∃ x, u = .agg #[x, .bool false] | 8 => ∃ g, u = .slice (some ⟨g, 0, none⟩) 1 1 | 9 => ∃ A n c, u = .slice A n c | 10 => u = (.pointer (some ⟨p, 0, none⟩) : Value) | 11 => u = (.pointer (some ⟨p, 1, none⟩) : Value) | 12 => True | _ => True) (fun vs => [.none, .box (blkOf (vs 8)) 71 #[lineV (vs 7), .bool false], .lines (vs 9) (List.replicate (k + 1) ((List.replicate cols (blank pen0)), false)), .box p 48 #[.int .i64 ↑cols, vs 9]]) (by kernel_rfl) (fun vs => by rfl) S.out.pad.pad ?_ ?_
      · refine SSteps.cons (fun a w' vs σ hS hl hs hk => ?_) ?_
        · have e5 : a.tmps.getD 5 undef = (.pointer (some ⟨p, 0, none⟩) : Value) := (sk_old hk 5 (by kernel_rfl)).trans rfl
          have f5 := gd e5
          exact ro_pure (v := .pointer (some ⟨p, 0, none⟩)) (wanted_none rfl) (by simp [execOp, Act.eval, e5, f5, go_sem]) (sp_same (by kernel_rfl) hl hs hS (show (.pointer (some ⟨p, 0, none⟩) : Value) = _ from rfl)) trivial
        refine SSteps.cons (fun a w' vs σ hS hl hs hk => ?_) ?_
        · have e5 : a.tmps.getD 5 undef = (.pointer (some ⟨p, 0, none⟩) : Value) := (sk_old hk 5 (by kernel_rfl)).trans rfl
          have f5 := gd e5
          exact ro_pure (v := .pointer (some ⟨p, 0, none⟩)) (wanted_none rfl) (by simp [execOp, Act.eval, e5, f5, go_sem]) (sp_same (by kernel_rfl) hl hs hS (show (.pointer (some ⟨p, 0, none⟩) : Value) = _ from rfl)) trivial
        refine SSteps.cons (fun a w' vs σ hS hl hs hk => ?_) ?_
        · have e16 : a.tmps.getD 16 undef = (.pointer (some ⟨p, 0, none⟩) : Value) := (sk_val hk 1 (by kernel_rfl) rfl rfl).trans ((hk.1 1 (by kernel_rfl)).1)
          have f16 := gd e16
          exact ro_pure (v := .pointer (some ⟨p, 0, none⟩)) (wanted_none rfl) (by simp [execOp, Act.eval, e16, f16, go_sem]) (sp_same (by kernel_rfl) hl hs hS (show (.pointer (some ⟨p, 0, none⟩) : Value) = _ from rfl)) trivial
        refine SSteps.cons (fun a w' vs σ hS hl hs hk => ?_) ?_
        · have e17 : a.tmps.getD 17 undef = (.pointer (some ⟨p, 0, none⟩) : Value) := (sk_val hk 2 (by kernel_rfl) rfl rfl).trans ((hk.1 2 (by kernel_rfl)).1)
          have f17 := gd e17
          exact ro_pure (v := .pointer (some ⟨p, 1, none⟩)) (wanted_none rfl) (by simp [execOp, Act.eval, e17, f17, go_sem]) (sp_same (by kernel_rfl) hl hs hS (show (.pointer (some ⟨p, 1, none⟩) : Value) = _ from rfl)) trivial
        refine SSteps.cons (fun a w' vs σ hS hl hs hk => ?_) ?_
        · have e18 : a.tmps.getD 18 undef = (.pointer (some ⟨p, 1, none⟩) : Value) := (sk_val hk 3 (by kernel_rfl) rfl rfl).trans ((hk.1 3 (by kernel_rfl)).1)
          have f18 := gd e18
          have hx := (hS.box (sg (hs 3 (by decide)))).cell
          exact ro_pure (v := v) (wanted_none rfl) (by simp [execOp, Act.eval, e18, f18, go_sem, hx]) (sp_same (by kernel_rfl) hl hs hS (show (v : Value) = _ from rfl)) trivial
        refine SSteps.cons (fun a w' vs σ hS hl hs hk => ?_) ?_
        · have e1 : a.tmps.getD 1 undef = (.int .i64 ↑cols : Value) := (sk_old hk 1 (by kernel_rfl)).trans rfl
          have f1 := gd e1
          exact ro_pure (v := .int .i64 ↑cols) (wanted_none rfl) (by simp [execOp, Act.eval, e1, f1, go_sem]) (sp_same (by kernel_rfl) hl hs hS (show (.int .i64 ↑cols : Value) = _ from rfl)) trivial
        refine SSteps.cons (fun a w' vs σ hS hl hs hk => ?_) ?_
        · exact ro_pure (v := .agg (pv pen0)) (wanted_none rfl) (by simp [execOp, Act.eval, go_sem, pen0]) (sp_same (by kernel_rfl) hl hs hS (show (.agg (pv pen0) : Value) = _ from rfl)) trivial
        refine SSteps.cons (fun a w' vs σ hS hl hs hk => ?_) ?_
        · have e20 : a.tmps.getD 20 undef = (.int .i64 ↑cols : Value) := (sk_val hk 5 (by kernel_rfl) rfl rfl).trans ((hk.1 5 (by kernel_rfl)).1)
          have f20 := gd e20
          have e21 : a.tmps.getD 21 undef = (.agg (pv pen0) : Value) := (sk_val hk 6 (by kernel_rfl) rfl rfl).trans ((hk.1 6 (by kernel_rfl)).1)
          have f21 := gd e21
          have h0 : σ[0]? = some .none := hs 0 (by decide)
          exact ro_call (f := 58) (wanted_none rfl) rfl (by simp only [List.map_toArray, List.map_cons, List.map_nil, Act.eval, e20, e21] <;> rfl) (fun _ _ => by kernel_rfl) ((r14Blanks_any cols (by omega) pen0 w0 w' _ hS).mono fun e w2 ⟨x, h1, h2⟩ => ⟨_, h1, sp_set 0 (.cells x (List.replicate cols (blank pen0))) (by kernel_rfl) (by simp) (by decide) hl hs (by rfl) (h2.place (sg h0)) ⟨x, rfl⟩, trivial⟩)
        refine SSteps.cons (fun a w' vs σ hS hl hs hk => ?_) ?_
        · have e22 : a.tmps.getD 22 undef = vs 7 := sk_val hk 7 (by kernel_rfl) rfl rfl
          have p22 : (fun u : Value => ∃ x, u = .agg #[x, .bool false]) (vs 7) := (hk.1 7 (by kernel_rfl)).1
          have f22 := gd e22
          obtain ⟨x, hx⟩ := p22
          have e9 := e22.trans hx
          have f9 := gd e9
          have h1 : σ[1]? = some .none := hs 1 (by decide)
          exact rs_run (wanted_none rfl) (exec_bsl rfl (by simp [Act.eval, e9, f9]) (run_bsl x false w')) (sp_set 1 (.box w'.heap.size 71 #[x, .bool false]) (by kernel_rfl) (by simp) (by decide) hl hs (by show Ob.box (blkOf (.slice (some ⟨w'.heap.size, 0, none⟩) 1 1)) 71 #[lineV (vs 7), .bool false] = _; rw [hx]; rfl) (hS.alloc1.place (sg h1)) ⟨_, rfl⟩)
        refine SSteps.cons (fun a w' vs σ hS hl hs hk => ?_) ?_
        · have e19 : a.tmps.getD 19 undef = (v : Value) := (sk_val hk 4 (by kernel_rfl) rfl rfl).trans ((hk.1 4 (by kernel_rfl)).1)
          have f19 := gd e19
          have e23 : a.tmps.getD 23 undef = vs 8 := sk_val hk 8 (by kernel_rfl) rfl rfl
          have p23 : (fun u : Value => ∃ g, u = .slice (some ⟨g, 0, none⟩) 1 1) (vs 8) := (hk.1 8 (by kernel_rfl)).1
          have f23 := gd e23
          have h2 : σ[2]? = some (.lines v (List.replicate k ((List.replicate cols (blank pen0)), false))) := hs 2 (by decide)
          have h0 : σ[0]? = some (.cells (lineV (vs 7)) (List.replicate cols (blank pen0))) := hs 0 (by decide)
          have h1 : σ[1]? = some (.box (blkOf (vs 8)) 71 #[lineV (vs 7), .bool false]) := hs 1 (by decide)
          obtain ⟨g8, hg8⟩ := p23
          rw [hg8, show blkOf (.slice (some ⟨g8, 0, none⟩) 1 1) = g8 from rfl] at h1
          obtain ⟨v9, w9, hr, hS2, A9, c9, hv9⟩ := run_appL hS (k := 2) (j := 0) (ad := ⟨g8, 0, none⟩) (c := 1) (s := false) (sg h2) (sg h0) (by decide) (by rw [(hS.box (sg h1)).cell]; rfl) (by rw [add_at, (hS.box (sg h1)).cell]; rfl) (by simp; omega) 33
          rw [← List.replicate_succ'] at hS2
          exact rs_run (wanted_none rfl) (exec_app rfl (by simp only [Act.eval]; exact e19) (by simp only [Act.eval]; exact e23.trans hg8) hr) (sp_set2 2 0 (.lines v9 (List.replicate (k + 1) ((List.replicate cols (blank pen0)), false))) .none (by decide) (by kernel_rfl) (by simp) (by simp) (by decide) (by decide) hl hs (by rfl) (by rfl) hS2 ⟨A9, _, c9, hv9⟩)
        refine SSteps.cons (fun a w' vs σ hS hl hs hk => ?_) ?_
        · have e15 : a.tmps.getD 15 undef = (.pointer (some ⟨p, 0, none⟩) : Value) := (sk_val hk 0 (by kernel_rfl) rfl rfl).trans ((hk.1 0 (by kernel_rfl)).1)
          have f15 := gd e15
          exact ro_pure (v := .pointer (some ⟨p, 0, none⟩)) (wanted_none rfl) (by simp [execOp, Act.eval, e15, f15, go_sem]) (sp_same (by kernel_rfl) hl hs hS (show (.pointer (some ⟨p, 0, none⟩) : Value) = _ from rfl)) trivial
        refine SSteps.cons (fun a w' vs σ hS hl hs hk => ?_) ?_
        · have e25 : a.tmps.getD 25 undef = (.pointer (some ⟨p, 0, none⟩) : Value) := (sk_val hk 10 (by kernel_rfl) rfl rfl).trans ((hk.1 10 (by kernel_rfl)).1)
          have f25 := gd e25
          exact ro_pure (v := .pointer (some ⟨p, 1, none⟩)) (wanted_none rfl) (by simp [execOp, Act.eval, e25, f25, go_sem]) (sp_same (by kernel_rfl) hl hs hS (show (.pointer (some ⟨p, 1, none⟩) : Value) = _ from rfl)) trivial
        refine SSteps.cons (fun a w' vs σ hS hl hs hk => ?_) ?_
        · have e26 : a.tmps.getD 26 undef = (.pointer (some ⟨p, 1, none⟩) : Value) := (sk_val hk 11 (by kernel_rfl) rfl rfl).trans ((hk.1 11 (by kernel_rfl)).1)
          have f26 := gd e26
          have e24 : a.tmps.getD 24 undef = vs 9 := sk_val hk 9 (by kernel_rfl) rfl rfl
          have p24 : (fun u : Value => ∃ A n c, u = .slice A n c) (vs 9) := (hk.1 9 (by kernel_rfl)).1
          have f24 := gd e24
          have h3 : σ[3]? = some (.box p 48 #[.int .i64 ↑cols, v]) := hs 3 (by decide)
          obtain ⟨hx, hf, hz⟩ := (hS.box (sg h3)).facts
          obtain ⟨A9, n9, c9, q9⟩ := p24
          exact rstep_store (w2 := w'.setCell ⟨p, 1, none⟩ (.slice A9 n9 c9)) (wanted_none rfl) rfl (by simp [execOp, Act.eval, e26, f26, e24, f24, q9, hx, hf, hz, go_sem]) (sp_set 3 (.box p 48 #[.int .i64 ↑cols, vs 9]) (by kernel_rfl) (by simp) (by decide) hl hs (by rfl) (by rw [q9]; exact hS.setBox 3 (sg h3)) trivial) trivial
        exact SSteps.nil
      · intro vs w' hS hv
        have q0 := (show vs 0 = (.pointer (some ⟨p, 0, none⟩) : Value) from hv 0 (by decide))
        have q1 := (show vs 1 = (.pointer (some ⟨p, 0, none⟩) : Value) from hv 1 (by decide))
        have q2 := (show vs 2 = (.pointer (some ⟨p, 0, none⟩) : Value) from hv 2 (by decide))
        have q3 := (show vs 3 = (.pointer (some ⟨p, 1, none⟩) : Value) from hv 3 (by decide))
        have q4 := (show vs 4 = (v : Value) from hv 4 (by decide))
        have q5 := (show vs 5 = (.int .i64 ↑cols : Value) from hv 5 (by decide))
        have q6 := (show vs 6 = (.agg (pv pen0) : Value) from hv 6 (by decide))
        have q10 := (show vs 10 = (.pointer (some ⟨p, 0, none⟩) : Value) from hv 10 (by decide))
        have q11 := (show vs 11 = (.pointer (some ⟨p, 1, none⟩) : Value) from hv 11 (by decide))
        have S2 := Lib.hid hS
        simp only [putL, Act.put, Nat.zero_add, Nat.reduceAdd, List.setIfInBounds_toArray, List.set_cons_succ, List.set_cons_zero, q0, q1, q2, q3, q4, q5, q6, q10, q11]
        clear hS hv q0 q1 q2 q3 q4 q5 q6 q10 q11
        go_wp2_with fail
        go_roundw
        case rel => exact ⟨k + 1, vs 9, by omega, by go_num, (S2.out.del 0).del 0⟩
        case measure => simp [intOf]; omega
    · obtain rfl : k = rows := by omega
      have SG := Lib.hid (S.out.closeGrid (k := 0) rfl)
      clear S S1
      go_wp2_with fail
      go_ret
      exact ⟨p, rfl, SG.out⟩
theorem gridNew_no (rows cols : Int) (h : rows < 1 ∨ 1000 < rows ∨ cols < 1 ∨ 1000 < cols) (w : World) : Calls Tryd.prog 16 #[.int .i64 rows, .int .i64 cols] w fun e w' => e = .returned (.tuple #[.pointer none, .int .i64 2]) ∧ w = w' := by
  have h' : rows < 1 ∨ (1 ≤ rows ∧ 1000 < rows) ∨ ((1 ≤ rows ∧ rows ≤ 1000) ∧ cols < 1) ∨ ((1 ≤ rows ∧ rows ≤ 1000) ∧ 1 ≤ cols ∧ 1000 < cols) := by omega
  clear h
  rcases h' with h | ⟨h, h2⟩ | ⟨⟨h, h2⟩, h3⟩ | ⟨⟨h, h2⟩, h3, h4⟩
  all_goals
    go_enter Tryd.func16, Tryd.ntmps16
    go_wp2_with fail
    go_ret2
    exact ⟨rfl, rfl⟩
end Go.Proofs.YtjligfbaljnhnaaDoor

/-
  SetSoft: whether a row is soft.
-/
set_option linter.unusedSimpArgs false
set_option linter.unusedVariables false
namespace Go.Proofs.YtjligfbaljnhnaaDoor
open Go.RowKit

section
variable {w0 w : World} {os : List Ob} {p cols : Nat} {L : List Ln}
set_option maxHeartbeats 1000000 in
theorem SetSoft_yes {i : Nat} {l : Ln} (s : Bool) (hS : Objs w0 w (.grid p 35 cols L :: os)) (hc : 0 < cols) (hl : L[i]? = some l) (hlen : L.length ≤ 1000000) :
    Calls Tryd.prog 45 #[.pointer (some ⟨p, 0, none⟩), .int .i64 i, .bool s] w fun e w' => e = .returned (.int .i64 0) ∧ Objs w0 w' (.grid p 35 cols (L.set i (l.1, s)) :: os) := by
  have S := Lib.hid hS
  have hi : i < L.length := (List.getElem?_eq_some_iff.1 hl).1
  have HL := Lib.hid hl
  have HE := Lib.hid (show thereE i L = 0 by unfold thereE; rw [if_pos ⟨by omega, by omega⟩])
  clear hS hl
  go_enter Tryd.func45, Tryd.ntmps45
  go_wp2_with fail
  refine (there_any i S.out (k := 0) rfl hc).mono ?_
  rw [HE.out]
  rintro e w1 ⟨rfl, hS⟩
  obtain ⟨v, hS1⟩ := hS.openGrid (k := 0) rfl
  obtain ⟨A, c, rfl, hcm, hrd⟩ := hS1.linesRd (k := 0) rfl
  obtain ⟨F, bs, hF, -⟩ := hS1.get (k := 0) rfl
  obtain ⟨A2, c2, e2, -, -, -, h4⟩ := hF.form
  simp only [Value.slice.injEq, true_and] at e2
  obtain ⟨rfl, rfl⟩ := e2
  obtain ⟨g, rfl, hz, -, hso, hfz⟩ := h4 (by omega)
  have hso2 := hso i l HL.out
  obtain ⟨hx0, hf0, hz0⟩ := (hS1.box (k := 1) rfl).facts
  have S2 := Lib.hid (((hS1.storeSoft (k := 0) (s := s) rfl HL.out) : Objs w0 _ (.lines _ _ :: _ :: os)).closeGrid (k := 0) rfl)
  clear hS hS1 S hcm hrd hF h4 hso
  go_wp2_with fail
  go_ret
  exact ⟨rfl, S2.out⟩
set_option maxHeartbeats 1000000 in
theorem SetSoft_no {row : Int} (s : Bool) (hS : Objs w0 w (.grid p 35 cols L :: os)) (hc : 0 < cols) (hno : ¬ (0 ≤ row ∧ row < L.length)) :
    Calls Tryd.prog 45 #[.pointer (some ⟨p, 0, none⟩), .int .i64 row, .bool s] w fun e w' => e = .returned (.int .i64 3) ∧ Objs w0 w' (.grid p 35 cols L :: os) := by
  have S := Lib.hid hS
  have HE := Lib.hid (show thereE row L = 3 by unfold thereE; rw [if_neg hno])
  clear hS hno
  go_enter Tryd.func45, Tryd.ntmps45
  go_wp2_with fail
  refine (there_any row S.out (k := 0) rfl hc).mono ?_
  rw [HE.out]
  rintro e w1 ⟨rfl, hS⟩
  have S1 := Lib.hid hS
  clear hS S
  go_wp2_with fail
  go_ret
  exact ⟨rfl, S1.out⟩
end
end Go.Proofs.YtjligfbaljnhnaaDoor

/-
  Copy of a grid.
-/
set_option linter.unusedSimpArgs false
set_option linter.unusedVariables false
namespace Go.Proofs.YtjligfbaljnhnaaDoor
open Go.RowKit

def sndV : Value → Value
  | .agg a => a.getD 1 undef
  | v => v
section
variable {w0 w : World} {os : List Ob} {p cols : Nat} {L : List Ln}
set_option maxRecDepth 100000 in
set_option maxHeartbeats 2000000 in
theorem Copy_front (hS : Objs w0 w (.grid p 35 cols L :: os)) (hc : 0 < cols) (hn : ∀ l ∈ L, l.1.length ≤ 1000000) (hL : L.length ≤ 1000000) :
    Calls Tryd.prog 30 #[.pointer (some ⟨p, 0, none⟩)] w fun e w' => ∃ p2, e = .returned (.pointer (some ⟨p2, 0, none⟩)) ∧ Objs w0 w' (.grid p2 35 cols L :: .grid p 35 cols L :: os) := by
  have S := Lib.hid hS
  have HN := Lib.hid hn
  clear hS hn
  go_enter Tryd.func30, Tryd.ntmps30
  go_wp2_with fail
  refine (none_no S.out (k := 0) rfl hc).mono ?_
  rintro e w1 ⟨rfl, hS⟩
  have S1 := Lib.hid hS
  clear hS S
  go_upto_region 3 with (fail)
  refine wp_region_stage (w0 := w0) (os := os) (by kernel_rfl) (by kernel_rfl) (by kernel_rfl) [(0, 5, [5], fun vs => .lines (vs 5) L), (0, 6, [6], fun vs => .lines (sndV (vs 6)) L), (1, 7, [6, 7], fun vs => .box (blkOf (vs 7)) 35 #[.int .i64 ↑cols, sndV (vs 6)]), (1, 8, [6, 8], fun vs => .box (blkOf (vs 8)) 35 #[.int .i64 ↑cols, sndV (vs 6)])] [[], [], [], [2], [], [0, 2], [0], [1], [1]] [.none, .none, .grid p 35 ↑cols L] (fun i u => match i with | 0 => u = (.pointer (some ⟨p, 0, none⟩) : Value) | 1 => u = (.pointer (some ⟨p, 0, none⟩) : Value) | 2 => u = (.pointer (some ⟨p, 0, none⟩) : Value) | 3 => u = (.int .i64 ↑cols : Value) | 4 => u = (.pointer (some ⟨p, 0, none⟩) : Value) | 5 => ∃ A n c, u = .slice A n c | 6 => ∃ A n c, u = .agg #[.int .i64 ↑cols, .slice A n c] | 7 => ∃ g, u = .pointer (some ⟨g, 0, none⟩) | 8 => ∃ g, u = .pointer (some ⟨g, 0, none⟩) | _ => True) (fun vs => [.lines (sndV (vs 6)) L, .box (blkOf (vs 8)) 35 #[.int .i64 ↑cols, sndV (vs 6)], .grid p 35 ↑cols L]) (by kernel_rfl) (fun vs => by rfl) S1.out.pad.pad ?_ ?_
  · refine SSteps.cons (fun a w' vs σ hS hl hs hk => ?_) ?_
    · have e0 : a.tmps.getD 0 undef = (.pointer (some ⟨p, 0, none⟩) : Value) := (sk_old hk 0 (by kernel_rfl)).trans rfl
      have f0 := gd e0
      exact ro_pure (v := .pointer (some ⟨p, 0, none⟩)) (wanted_none rfl) (by simp [execOp, Act.eval, e0, f0, go_sem]) (sp_same (by kernel_rfl) hl hs hS (show (.pointer (some ⟨p, 0, none⟩) : Value) = _ from rfl)) trivial
    refine SSteps.cons (fun a w' vs σ hS hl hs hk => ?_) ?_
    · have e5 : a.tmps.getD 5 undef = (.pointer (some ⟨p, 0, none⟩) : Value) := (sk_val hk 0 (by kernel_rfl) rfl rfl).trans ((hk.1 0 (by kernel_rfl)).1)
      have f5 := gd e5
      exact ro_pure (v := .pointer (some ⟨p, 0, none⟩)) (wanted_none rfl) (by simp [execOp, Act.eval, e5, f5, go_sem]) (sp_same (by kernel_rfl) hl hs hS (show (.pointer (some ⟨p, 0, none⟩) : Value) = _ from rfl)) trivial
    refine SSteps.cons (fun a w' vs σ hS hl hs hk => ?_) ?_
    · have e6 : a.tmps.getD 6 undef = (.pointer (some ⟨p, 0, none⟩) : Value) := (sk_val hk 1 (by kernel_rfl) rfl rfl).trans ((hk.1 1 (by kernel_rfl)).1)
      have f6 := gd e6
      exact ro_pure (v := .pointer (some ⟨p, 0, none⟩)) (wanted_none rfl) (by simp [execOp, Act.eval, e6, f6, go_sem]) (sp_same (by kernel_rfl) hl hs hS (show (.pointer (some ⟨p, 0, none⟩) : Value) = _ from rfl)) trivial
    refine SSteps.cons (fun a w' vs σ hS hl hs hk => ?_) ?_
    · have e7 : a.tmps.getD 7 undef = (.pointer (some ⟨p, 0, none⟩) : Value) := (sk_val hk 2 (by kernel_rfl) rfl rfl).trans ((hk.1 2 (by kernel_rfl)).1)
      have f7 := gd e7
      obtain ⟨A1, c1, hB1, -, -⟩ := hS.gridRd (sg (hs 2 (by decide)))
      have hx := hB1.cell
      exact ro_pure (v := .int .i64 ↑cols) (wanted_none rfl) (by simp [execOp, Act.eval, e7, f7, go_sem, hx]) (sp_same (by kernel_rfl) hl hs hS (show (.int .i64 ↑cols : Value) = _ from rfl)) trivial
    refine SSteps.cons (fun a w' vs σ hS hl hs hk => ?_) ?_
    · have e0 : a.tmps.getD 0 undef = (.pointer (some ⟨p, 0, none⟩) : Value) := (sk_old hk 0 (by kernel_rfl)).trans rfl
      have f0 := gd e0
      exact ro_pure (v := .pointer (some ⟨p, 0, none⟩)) (wanted_none rfl) (by simp [execOp, Act.eval, e0, f0, go_sem]) (sp_same (by kernel_rfl) hl hs hS (show (.pointer (some ⟨p, 0, none⟩) : Value) = _ from rfl)) trivial
    refine SSteps.cons (fun a w' vs σ hS hl hs hk => ?_) ?_
    · have e9 : a.tmps.getD 9 undef = (.pointer (some ⟨p, 0, none⟩) : Value) := (sk_val hk 4 (by kernel_rfl) rfl rfl).trans ((hk.1 4 (by kernel_rfl)).1)
      have f9 := gd e9
      have h0 : σ[0]? = some .none := hs 0 (by decide)
      have h2 : σ[2]? = some (.grid p 35 ↑cols L) := hs 2 (by decide)
      exact ro_call (f := 22) (wanted_none rfl) rfl (by simp only [List.map_toArray, List.map_cons, List.map_nil, Act.eval, e9] <;> rfl) (fun _ _ => by kernel_rfl) ((Lines_any hS (sg h2) hc HN.out hL).mono fun e w2 ⟨x, h1, h2⟩ => ⟨_, h1, sp_set 0 (.lines x L) (by kernel_rfl) (by simp) (by decide) hl hs (by rfl) (h2.place (sg h0)) (by obtain ⟨A, c, e, -⟩ := h2.linesRd (k := 0) rfl; exact ⟨A, _, c, e⟩), trivial⟩)
    refine SSteps.cons (fun a w' vs σ hS hl hs hk => ?_) ?_
    · have e8 : a.tmps.getD 8 undef = (.int .i64 ↑cols : Value) := (sk_val hk 3 (by kernel_rfl) rfl rfl).trans ((hk.1 3 (by kernel_rfl)).1)
      have f8 := gd e8
      have e10 : a.tmps.getD 10 undef = vs 5 := sk_val hk 5 (by kernel_rfl) rfl rfl
      have p10 : (fun u : Value => ∃ A n c, u = .slice A n c) (vs 5) := (hk.1 5 (by kernel_rfl)).1
      have f10 := gd e10
      obtain ⟨A5, n5, c5, q5⟩ := p10
      have e9 := e10.trans q5
      have f9 := gd e9
      have h0 : σ[0]? = some (.lines (vs 5) L) := hs 0 (by decide)
      rw [q5] at h0
      have hSS : Objs w0 w' ((σ ++ os).set 0 (.lines (.slice A5 n5 c5) L)) := by rw [set_self (sg h0)]; exact hS
      exact rs_run (v' := .agg #[.int .i64 ↑cols, .slice A5 n5 c5]) (w' := w') (wanted_none rfl) (by simp [execOp, Act.eval, e8, f8, e9, f9, go_sem]) (sp_set 0 (.lines (.slice A5 n5 c5) L) (by kernel_rfl) (by simp) (by decide) hl hs (by rfl) hSS ⟨A5, n5, c5, rfl⟩)
    refine SSteps.cons (fun a w' vs σ hS hl hs hk => ?_) ?_
    · have e11 : a.tmps.getD 11 undef = vs 6 := sk_val hk 6 (by kernel_rfl) rfl rfl
      have p11 : (fun u : Value => ∃ A n c, u = .agg #[.int .i64 ↑cols, .slice A n c]) (vs 6) := (hk.1 6 (by kernel_rfl)).1
      have f11 := gd e11
      obtain ⟨A6, n6, c6, q6⟩ := p11
      have e9 := e11.trans q6
      have f9 := gd e9
      have h1 : σ[1]? = some .none := hs 1 (by decide)
      exact rs_run (v' := .pointer (some ⟨w'.heap.size, 0, none⟩)) (w' := w'.alloc (.cells #[.int .i64 ↑cols, .slice A6 n6 c6] 35)) (wanted_none rfl) (by simp [execOp, Act.eval, e9, f9, go_sem]) (sp_set 1 (.box w'.heap.size 35 #[.int .i64 ↑cols, .slice A6 n6 c6]) (by kernel_rfl) (by simp) (by decide) hl hs (by show Ob.box (blkOf (.pointer (some ⟨w'.heap.size, 0, none⟩))) 35 #[.int .i64 ↑cols, sndV (vs 6)] = _; rw [q6]; rfl) (hS.alloc1.place (sg h1)) ⟨_, rfl⟩)
    refine SSteps.cons (fun a w' vs σ hS hl hs hk => ?_) ?_
    · have e12 : a.tmps.getD 12 undef = vs 7 := sk_val hk 7 (by kernel_rfl) rfl rfl
      have p12 : (fun u : Value => ∃ g, u = .pointer (some ⟨g, 0, none⟩)) (vs 7) := (hk.1 7 (by kernel_rfl)).1
      have f12 := gd e12
      obtain ⟨g7, q7⟩ := p12
      have e9 := e12.trans q7
      have f9 := gd e9
      have h1 : σ[1]? = some (.box (blkOf (vs 7)) 35 #[.int .i64 ↑cols, sndV (vs 6)]) := hs 1 (by decide)
      rw [q7, show blkOf (.pointer (some ⟨g7, 0, none⟩)) = g7 from rfl] at h1
      have hSS : Objs w0 w' ((σ ++ os).set 1 (.box g7 35 #[.int .i64 ↑cols, sndV (vs 6)])) := by rw [set_self (sg h1)]; exact hS
      exact rs_run (v' := .pointer (some ⟨g7, 0, none⟩)) (w' := w') (wanted_none rfl) (by simp [execOp, Act.eval, e9, f9, go_sem]) (sp_set 1 (.box g7 35 #[.int .i64 ↑cols, sndV (vs 6)]) (by kernel_rfl) (by simp) (by decide) hl hs (by rfl) hSS ⟨g7, rfl⟩)
    exact SSteps.nil
  · intro vs w' hS hv
    have q0 := (show vs 0 = (.pointer (some ⟨p, 0, none⟩) : Value) from hv 0 (by decide))
    have q1 := (show vs 1 = (.pointer (some ⟨p, 0, none⟩) : Value) from hv 1 (by decide))
    have q2 := (show vs 2 = (.pointer (some ⟨p, 0, none⟩) : Value) from hv 2 (by decide))
    have q3 := (show vs 3 = (.int .i64 ↑cols : Value) from hv 3 (by decide))
    have q4 := (show vs 4 = (.pointer (some ⟨p, 0, none⟩) : Value) from hv 4 (by decide))
    obtain ⟨g8, q8⟩ := (show ∃ g, vs 8 = .pointer (some ⟨g, 0, none⟩) from hv 8 (by decide))
    rw [q8] at hS
    have S2 := Lib.hid hS
    simp only [putL, Act.put, Nat.zero_add, Nat.reduceAdd, List.setIfInBounds_toArray, List.set_cons_succ, List.set_cons_zero, q0, q1, q2, q3, q4]
    clear hS hv q0 q1 q2 q3 q4
    have HF := (show Objs w0 w' (.lines _ L :: .box g8 35 _ :: _ :: os) from S2.out).closeGrid (k := 0) rfl
    clear S2
    simp only [q8]
    go_wp2_with fail
    go_ret
    exact ⟨g8, rfl, HF⟩
end
end Go.Proofs.YtjligfbaljnhnaaDoor

/-
  The reference's comparison of lines, and of lists of lines.
-/
set_option linter.unusedSimpArgs false
set_option linter.unusedVariables false
namespace Go.Proofs.YtjligfbaljnhnaaDoor
open Go.RowKit

theorem tt_of {f : FuncId} {args : Array Value} {w : World} {b : Bool} (hc : Calls Tryd.prog f args w fun e w' => e = .returned (.bool b) ∧ Below w.heap.size w w') (h : b = true) : Calls Tryd.prog f args w fun e w' => e = .returned (.bool true) ∧ Below w.heap.size w w' := h ▸ hc
theorem ff_of {f : FuncId} {args : Array Value} {w : World} {b : Bool} (hc : Calls Tryd.prog f args w fun e w' => e = .returned (.bool b) ∧ Below w.heap.size w w') (h : b = false) : Calls Tryd.prog f args w fun e w' => e = .returned (.bool false) ∧ Below w.heap.size w w' := h ▸ hc
theorem upto_eqG {α : Type} {xs ys : List α} (hl : xs.length = ys.length) (h : ∀ k, k < xs.length → xs[k]? = ys[k]?) : xs = ys := by
  apply List.ext_getElem?
  intro k
  rcases Nat.lt_or_ge k xs.length with hk | hk
  · exact h k hk
  · rw [List.getElem?_eq_none hk, List.getElem?_eq_none (by omega)]
set_option maxHeartbeats 2000000 in
theorem r14SameLine_any (A B : Option Addr) (ca cb : Nat) (xs ys : List Cell) (s t : Bool) (w : World) (ha : RdC w A ca xs) (hb : RdC w B cb ys) (hn : xs.length ≤ 1000000) (hm : ys.length ≤ 1000000) :
    Calls Tryd.prog 35 #[.agg #[.slice A xs.length ca, .bool s], .agg #[.slice B ys.length cb, .bool t]] w fun e w' => e = .returned (.bool (eqL xs s ys t)) ∧ Below w.heap.size w w' := by
  have HA := Lib.hid ha
  have HB := Lib.hid hb
  clear ha hb
  have HD := Lib.hid (lineEq_dec xs ys s t)
  by_cases hst : s = t
  case neg =>
    have h' : (s == t) = false := by simpa using hst
    go_enter Tryd.func35, Tryd.ntmps35
    go_wp2_with fail
    go_ret
    exact ⟨by rw [HD.out]; simp [hst], (belA _ _).trans ((belA _ _).mono (by simp))⟩
  subst hst
  by_cases hl : xs.length = ys.length
  case neg =>
    have HE := Lib.hid (show decide (xs = ys) = false by simp; intro h; exact hl (by rw [h]))
    have hl' : ((xs.length : Int) == (ys.length : Int)) = false := by rw [beq_eq_false_iff_ne]; omega
    clear hl
    go_enter Tryd.func35, Tryd.ntmps35
    go_wp2_with fail
    go_ret
    exact ⟨by rw [HD.out, HE.out]; simp, (belA _ _).trans ((belA _ _).mono (by simp))⟩
  have hl' : ((xs.length : Int) == (ys.length : Int)) = true := by simp; omega
  have HL := Lib.hid hl
  clear hl
  go_enter Tryd.func35, Tryd.ntmps35
  go_wp2_with fail
  go_loopw [5] (fun i wr => ∃ k : Nat, k ≤ xs.length ∧ i = .int .i64 k ∧ (∀ j, j < k → xs[j]? = ys[j]?) ∧ Blk wr w.heap.size 71 #[.slice A xs.length ca, .bool s] ∧ Blk wr (w.heap.size + 1) 71 #[.slice B ys.length cb, .bool s] ∧ Below w.heap.size w wr) (fun i _ => xs.length - (intOf i).toNat)
  case atStart => exact ⟨0, by omega, rfl, fun j hj => by omega, (Blk.new _ _ _).alloc _, by have := Blk.new (w.alloc (.cells #[.slice A xs.length ca, .bool s] 71)) 71 #[.slice B ys.length cb, .bool s]; simpa using this, (belA _ _).trans ((belA _ _).mono (by simp))⟩
  case round =>
    obtain ⟨k, hk, rfl, hj, hk1, hk2, hb⟩ := hrel
    have HJ := Lib.hid hj
    have HW := Lib.hid hb
    have K1 := Lib.hid hk1
    have K2 := Lib.hid hk2
    obtain ⟨hx1, hf1, hz1⟩ := hk1.facts
    obtain ⟨hx2, hf2, hz2⟩ := hk2.facts
    clear hj hb hk1 hk2
    by_cases hlt : k < xs.length
    · have hlt2 : k < ys.length := by have := HL.out; omega
      obtain ⟨b1, o1, rfl, hz3, hr1⟩ := (HA.out.bel HW.out).at_ hlt
      obtain ⟨b2, o2, rfl, hz4, hr2⟩ := (HB.out.bel HW.out).at_ hlt2
      have hc1 := elem_cell hr1 hlt
      have hc2 := elem_cell hr2 hlt2
      clear hr1 hr2
      by_cases he : xs[k] = ys[k]
      · have he' : decide (xs[k] = ys[k]) = true := by simpa using he
        have HE := Lib.hid he
        clear he
        go_wp2_with fail
        refine wp_region_below (by kernel_rfl) (by kernel_rfl) ?_
        repeat (go_big_quiet_step (fail))
        refine wpQuiet_nil ?_
        intro w2 hb2
        have K12 := Lib.hid (K1.out.bel hb2)
        have K22 := Lib.hid (K2.out.bel hb2)
        clear hx1 hf1 hz1 hx2 hf2 hz2 hc1 hc2
        go_wp2_with fail
        go_roundw
        case rel => exact ⟨k + 1, by omega, by go_num, upto_succ HJ.out (by rw [List.getElem?_eq_getElem hlt, List.getElem?_eq_getElem hlt2, HE.out]), K12.out, K22.out, HW.out.trans (hb2.mono HW.out.size)⟩
        case measure => simp [intOf]; omega
      · have he' : decide (xs[k] = ys[k]) = false := by simpa using he
        have HE := Lib.hid (show decide (xs = ys) = false by simp; rintro rfl; exact he rfl)
        clear he
        go_wp2_with fail
        refine wp_region_below (by kernel_rfl) (by kernel_rfl) ?_
        repeat (go_big_quiet_step (fail))
        refine wpQuiet_nil ?_
        intro w2 hb2
        clear hx1 hf1 hz1 hx2 hf2 hz2 hc1 hc2
        go_wp2_with fail
        go_ret
        exact ⟨by rw [HD.out, HE.out]; simp, HW.out.trans (hb2.mono HW.out.size)⟩
    · have HE := Lib.hid (show decide (xs = ys) = true by simp; exact upto_eq HL.out (fun j hj => HJ.out j (by omega)))
      go_wp2_with fail
      go_ret
      exact ⟨by rw [HD.out, HE.out]; simp, HW.out⟩
theorem eqL_line (a b : Ln) : eqL a.1 a.2 b.1 b.2 = decide (a = b) := rfl
set_option maxHeartbeats 2000000 in
theorem r14SameLines_any (A B : Option Addr) (ca cb : Nat) (xs ys : List Ln) (w : World) (ha : RdL w A ca xs) (hb : RdL w B cb ys) (hn : xs.length ≤ 1000000) (hm : ys.length ≤ 1000000) (hx : ∀ l ∈ xs, l.1.length ≤ 1000000) (hy : ∀ l ∈ ys, l.1.length ≤ 1000000) :
    Calls Tryd.prog 21 #[.slice A xs.length ca, .slice B ys.length cb] w fun e w' => e = .returned (.bool (decide (xs = ys))) ∧ Below w.heap.size w w' := by
  have HA := Lib.hid ha
  have HB := Lib.hid hb
  have HX := Lib.hid hx
  have HY := Lib.hid hy
  clear ha hb hx hy
  by_cases hl : xs.length = ys.length
  case neg =>
    have HE := Lib.hid (show decide (xs = ys) = false by simp; intro h; exact hl (by rw [h]))
    have hl' : ((xs.length : Int) == (ys.length : Int)) = false := by rw [beq_eq_false_iff_ne]; omega
    clear hl
    go_enter Tryd.func21, Tryd.ntmps21
    go_wp2_with fail
    go_ret
    exact ⟨by rw [HE.out]; rfl, Below.refl _ _⟩
  have hl' : ((xs.length : Int) == (ys.length : Int)) = true := by simp; omega
  have HL := Lib.hid hl
  clear hl
  go_enter Tryd.func21, Tryd.ntmps21
  go_wp2_with fail
  go_loopw [5] (fun i wr => ∃ k : Nat, k ≤ xs.length ∧ i = .int .i64 k ∧ (∀ j, j < k → xs[j]? = ys[j]?) ∧ Below w.heap.size w wr) (fun i _ => xs.length - (intOf i).toNat)
  case atStart => exact ⟨0, by omega, rfl, fun j hj => by omega, Below.refl _ _⟩
  case round =>
    obtain ⟨k, hk, rfl, hj, hb⟩ := hrel
    have HJ := Lib.hid hj
    have HW := Lib.hid hb
    clear hj hb
    by_cases hlt : k < xs.length
    · have hlt2 : k < ys.length := by have := HL.out; omega
      obtain ⟨b1, o1, A1, c1, rfl, hz1, hc1, hc2, hr1⟩ := (HA.out.bel HW.out).at_ (show xs[k]? = some xs[k] by simp [hlt])
      obtain ⟨b2, o2, A2, c2, rfl, hz2, hc3, hc4, hr2⟩ := (HB.out.bel HW.out).at_ (show ys[k]? = some ys[k] by simp [hlt2])
      have HR1 := Lib.hid hr1
      have HR2 := Lib.hid hr2
      clear hr1 hr2
      have HN1 := Lib.hid (HX.out _ (List.getElem_mem hlt))
      have HN2 := Lib.hid (HY.out _ (List.getElem_mem hlt2))
      by_cases he : xs[k] = ys[k]
      · have HE := Lib.hid he
        have HQ := Lib.hid (show eqL xs[k].1 xs[k].2 ys[k].1 ys[k].2 = true by rw [eqL_line]; simpa using he)
        clear he
        go_wp2_with fail
        refine wp_region_below (by kernel_rfl) (by kernel_rfl) ?_
        repeat (go_big_quiet_step ((go_at_call 35; exact quiet_below (tt_of (r14SameLine_any A1 A2 c1 c2 xs[k].1 ys[k].1 xs[k].2 ys[k].2 _ (HR1.out.bel (below_plus _ _)) (HR2.out.bel (below_plus _ _)) HN1.out HN2.out) HQ.out))))
        refine wpQuiet_nil ?_
        intro w2 hb2
        clear hc1 hc2 hc3 hc4
        go_wp2_with fail
        go_roundw
        case rel => exact ⟨k + 1, by omega, by go_num, upto_succ HJ.out (by rw [List.getElem?_eq_getElem hlt, List.getElem?_eq_getElem hlt2, HE.out]), HW.out.trans (hb2.mono HW.out.size)⟩
        case measure => simp [intOf]; omega
      · have HE := Lib.hid (show decide (xs = ys) = false by simp; rintro rfl; exact he rfl)
        have HQ := Lib.hid (show eqL xs[k].1 xs[k].2 ys[k].1 ys[k].2 = false by rw [eqL_line]; simpa using he)
        clear he
        go_wp2_with fail
        refine wp_region_below (by kernel_rfl) (by kernel_rfl) ?_
        repeat (go_big_quiet_step ((go_at_call 35; exact quiet_below (ff_of (r14SameLine_any A1 A2 c1 c2 xs[k].1 ys[k].1 xs[k].2 ys[k].2 _ (HR1.out.bel (below_plus _ _)) (HR2.out.bel (below_plus _ _)) HN1.out HN2.out) HQ.out))))
        refine wpQuiet_nil ?_
        intro w2 hb2
        clear hc1 hc2 hc3 hc4
        go_wp2_with fail
        go_ret
        exact ⟨by rw [HE.out]; rfl, HW.out.trans (hb2.mono HW.out.size)⟩
    · have HE := Lib.hid (show decide (xs = ys) = true by simp; exact upto_eqG HL.out (fun j hj => HJ.out j (by omega)))
      go_wp2_with fail
      go_ret
      exact ⟨by rw [HE.out]; rfl, HW.out⟩
end Go.Proofs.YtjligfbaljnhnaaDoor

/-
  Same: whether two grids are equal.
-/
set_option linter.unusedSimpArgs false
set_option linter.unusedVariables false
namespace Go.Proofs.YtjligfbaljnhnaaDoor
open Go.RowKit

set_option maxHeartbeats 2000000 in
theorem eqFunc_any (A B : Option Addr) (ca cb : Nat) (xs ys : List Ln) (w : World) (ha : RdL w A ca xs) (hb : RdL w B cb ys) (hn : xs.length ≤ 1000000) (hm : ys.length ≤ 1000000) (hx : ∀ l ∈ xs, l.1.length ≤ 1000000) (hy : ∀ l ∈ ys, l.1.length ≤ 1000000) :
    Calls Tryd.prog 65 #[.slice A xs.length ca, .slice B ys.length cb, .func (.func 66) #[] #[]] w fun e w' => e = .returned (.bool (decide (xs = ys))) ∧ Below w.heap.size w w' := by
  have HA := Lib.hid ha
  have HB := Lib.hid hb
  have HX := Lib.hid hx
  have HY := Lib.hid hy
  clear ha hb hx hy
  by_cases hl : xs.length = ys.length
  case neg =>
    have HE := Lib.hid (show decide (xs = ys) = false by simp; intro h; exact hl (by rw [h]))
    have hl' : ((xs.length : Int) == (ys.length : Int)) = false := by rw [beq_eq_false_iff_ne]; omega
    clear hl
    go_enter Tryd.func65, Tryd.ntmps65
    go_wp2_with fail
    go_ret
    exact ⟨by rw [HE.out]; rfl, Below.refl _ _⟩
  have hl' : ((xs.length : Int) == (ys.length : Int)) = true := by simp; omega
  have hl2 : ((xs.length : Int) != (ys.length : Int)) = false := by simp; omega
  have HL := Lib.hid hl
  clear hl
  go_enter Tryd.func65, Tryd.ntmps65
  go_wp2_with fail
  go_loopw [7, 8, 9, 17] (fun _ _ _ i wr => ∃ k : Nat, k ≤ xs.length ∧ i = .int .i64 k ∧ (∀ j, j < k → xs[j]? = ys[j]?) ∧ Below w.heap.size w wr) (fun _ _ _ i _ => xs.length - (intOf i).toNat)
  case atStart => exact ⟨0, by omega, rfl, fun j hj => by omega, Below.refl _ _⟩
  case round =>
    obtain ⟨k, hk, rfl, hj, hb⟩ := hrel
    have HJ := Lib.hid hj
    have HW := Lib.hid hb
    clear hj hb
    by_cases hlt : k < xs.length
    · have hlt2 : k < ys.length := by have := HL.out; omega
      obtain ⟨b1, o1, A1, c1, rfl, hz1, hc1, hc2, hr1⟩ := (HA.out.bel HW.out).at_ (show xs[k]? = some xs[k] by simp [hlt])
      obtain ⟨b2, o2, A2, c2, rfl, hz2, hc3, hc4, hr2⟩ := (HB.out.bel HW.out).at_ (show ys[k]? = some ys[k] by simp [hlt2])
      have HR1 := Lib.hid hr1
      have HR2 := Lib.hid hr2
      clear hr1 hr2
      have HN1 := Lib.hid (HX.out _ (List.getElem_mem hlt))
      have HN2 := Lib.hid (HY.out _ (List.getElem_mem hlt2))
      by_cases he : xs[k] = ys[k]
      · have HE := Lib.hid he
        have HQ := Lib.hid (show eqL xs[k].1 xs[k].2 ys[k].1 ys[k].2 = true by rw [eqL_line]; simpa using he)
        clear he
        go_wp2_with fail
        refine (tt_of (lineEqual_any A1 A2 c1 c2 xs[k].1 ys[k].1 xs[k].2 ys[k].2 _ ((HR1.out.alloc _).alloc _) ((HR2.out.alloc _).alloc _) HN1.out HN2.out) HQ.out).mono ?_
        rintro e w2 ⟨rfl, hb2⟩
        have HB2 := Lib.hid (bel1 (bel1 hb2))
        clear hc1 hc2 hc3 hc4 hb2
        go_wp2_with fail
        go_roundw
        case rel => exact ⟨k + 1, by omega, by go_num, upto_succ HJ.out (by rw [List.getElem?_eq_getElem hlt, List.getElem?_eq_getElem hlt2, HE.out]), HW.out.trans (HB2.out.mono HW.out.size)⟩
        case measure => simp [intOf]; omega
      · have HE := Lib.hid (show decide (xs = ys) = false by simp; rintro rfl; exact he rfl)
        have HQ := Lib.hid (show eqL xs[k].1 xs[k].2 ys[k].1 ys[k].2 = false by rw [eqL_line]; simpa using he)
        clear he
        go_wp2_with fail
        refine (ff_of (lineEqual_any A1 A2 c1 c2 xs[k].1 ys[k].1 xs[k].2 ys[k].2 _ ((HR1.out.alloc _).alloc _) ((HR2.out.alloc _).alloc _) HN1.out HN2.out) HQ.out).mono ?_
        rintro e w2 ⟨rfl, hb2⟩
        have HB2 := Lib.hid (bel1 (bel1 hb2))
        clear hc1 hc2 hc3 hc4 hb2
        go_wp2_with fail
        go_ret
        exact ⟨by rw [HE.out]; rfl, HW.out.trans (HB2.out.mono HW.out.size)⟩
    · have HE := Lib.hid (show decide (xs = ys) = true by simp; exact upto_eqG HL.out (fun j hj => HJ.out j (by omega)))
      go_wp2_with fail
      go_ret
      exact ⟨by rw [HE.out]; rfl, HW.out⟩
end Go.Proofs.YtjligfbaljnhnaaDoor

/-
  Same of two grids.
-/
set_option linter.unusedSimpArgs false
set_option linter.unusedVariables false
namespace Go.Proofs.YtjligfbaljnhnaaDoor
open Go.RowKit

section
variable {w0 w : World} {os : List Ob}
set_option maxHeartbeats 2000000 in
theorem Same_any {k1 k2 p1 p2 c1 c2 : Nat} {L1 L2 : List Ln} (hS : Objs w0 w os) (hk1 : os[k1]? = some (.grid p1 35 c1 L1)) (hk2 : os[k2]? = some (.grid p2 35 c2 L2)) (h1 : 0 < c1) (h2 : 0 < c2) (hn1 : L1.length ≤ 1000000) (hn2 : L2.length ≤ 1000000) (hx : ∀ l ∈ L1, l.1.length ≤ 1000000) (hy : ∀ l ∈ L2, l.1.length ≤ 1000000) :
    Calls Tryd.prog 31 #[.pointer (some ⟨p1, 0, none⟩), .pointer (some ⟨p2, 0, none⟩)] w fun e w' => e = .returned (.bool (decide (c1 = c2) && decide (L1 = L2))) ∧ Objs w0 w' os := by
  have S := Lib.hid hS
  have HK1 := Lib.hid hk1
  have HK2 := Lib.hid hk2
  have HX := Lib.hid hx
  have HY := Lib.hid hy
  clear hS hk1 hk2 hx hy
  go_enter Tryd.func31, Tryd.ntmps31
  go_wp2_with fail
  refine (none_no S.out HK1.out h1).mono ?_
  rintro e w1 ⟨rfl, hS⟩
  have S1 := Lib.hid hS
  clear hS
  go_wp2_with fail
  refine (none_no S1.out HK2.out h2).mono ?_
  rintro e w2 ⟨rfl, hS⟩
  have S2 := Lib.hid hS
  obtain ⟨A1, d1, hB1, -, hr1⟩ := hS.gridRd HK1.out
  obtain ⟨A2, d2, hB2, -, hr2⟩ := hS.gridRd HK2.out
  have R1 := Lib.hid hr1
  have R2 := Lib.hid hr2
  obtain ⟨hx1, hf1, hz1⟩ := hB1.facts
  obtain ⟨hx2, hf2, hz2⟩ := hB2.facts
  clear hS hB1 hB2 hr1 hr2
  by_cases hc : c1 = c2
  case neg =>
    have hc' : decide ((c1 : Int) = (c2 : Int)) = false := by simp; omega
    have hcb : ((c1 : Int) == (c2 : Int)) = false := by rw [beq_eq_false_iff_ne]; omega
    have HC := Lib.hid hc
    clear hc
    go_wp2_with fail
    refine wp_region_below (by kernel_rfl) (by kernel_rfl) ?_
    repeat (go_big_quiet_step (fail))
    refine wpQuiet_nil ?_
    intro w3 hb3
    have S3 := Lib.hid (S2.out.bel hb3)
    clear hx1 hf1 hz1 hx2 hf2 hz2
    go_wp2_with fail
    go_ret
    exact ⟨by rw [show decide (c1 = c2) = false by simpa using HC.out]; rfl, S3.out⟩
  subst hc
  go_wp2_with fail
  refine wp_region_below (by kernel_rfl) (by kernel_rfl) ?_
  repeat (go_big_quiet_step ((go_at_call 65; exact quiet_below (eqFunc_any A1 A2 d1 d2 L1 L2 _ (R1.out.bel (below_plus _ _)) (R2.out.bel (below_plus _ _)) hn1 hn2 HX.out HY.out))))
  refine wpQuiet_nil ?_
  intro w3 hb3
  have S3 := Lib.hid (S2.out.bel hb3)
  clear hx1 hf1 hz1 hx2 hf2 hz2
  go_wp2_with fail
  go_ret
  exact ⟨by simp, S3.out⟩
end
end Go.Proofs.YtjligfbaljnhnaaDoor

/-
  What the methods of a grid do, wherever it lies among the objects.
-/
set_option linter.unusedSimpArgs false
set_option linter.unusedVariables false
namespace Go.Proofs.YtjligfbaljnhnaaDoor
open Go.RowKit

/-- A row's cells turn. -/
def rowMod (i : Nat) (f : List Cell → List Cell) (L : List Ln) : List Ln := match L[i]? with | some l => L.set i (f l.1, l.2) | none => L
def softMod (i : Nat) (s : Bool) (L : List Ln) : List Ln := match L[i]? with | some l => L.set i (l.1, s) | none => L
theorem rowMod_some {i : Nat} {f : List Cell → List Cell} {L : List Ln} {l : Ln} (h : L[i]? = some l) : rowMod i f L = L.set i (f l.1, l.2) := by unfold rowMod; rw [h]
theorem softMod_some {i : Nat} {s : Bool} {L : List Ln} {l : Ln} (h : L[i]? = some l) : softMod i s L = L.set i (l.1, s) := by unfold softMod; rw [h]
theorem rowMod_length (i : Nat) (f : List Cell → List Cell) (L : List Ln) : (rowMod i f L).length = L.length := by unfold rowMod; split <;> simp
theorem softMod_length (i : Nat) (s : Bool) (L : List Ln) : (softMod i s L).length = L.length := by unfold softMod; split <;> simp
theorem rect_set {n i : Nat} {L : List Ln} {l : Ln} (h : Rect n L) (hl : l.1.length = n) : Rect n (L.set i l) := fun x hx => by
  rcases List.mem_or_eq_of_mem_set hx with h1 | rfl
  · exact h x h1
  · exact hl
theorem Rect.rowMod {n : Nat} {L : List Ln} (h : Rect n L) (i : Nat) {f : List Cell → List Cell} (hf : ∀ cs : List Cell, cs.length = n → (f cs).length = n) : Rect n (rowMod i f L) := by
  unfold Proofs.YtjligfbaljnhnaaDoor.rowMod
  split
  · rename_i l hl; exact rect_set h (hf _ (h.at_ hl))
  · exact h
theorem Rect.softMod {n : Nat} {L : List Ln} (h : Rect n L) (i : Nat) (s : Bool) : Rect n (softMod i s L) := by
  unfold Proofs.YtjligfbaljnhnaaDoor.softMod
  split
  · rename_i l hl; exact rect_set h (show l.1.length = n from h.at_ hl)
  · exact h
theorem Rect.mill {n : Nat} {L : List Ln} (h : Rect n L) (hn : n ≤ 1000) : ∀ l ∈ L, l.1.length ≤ 1000000 := fun l hl => by rw [h l hl]; omega
theorem get_of {α : Type} {L : List α} {i : Nat} (h : i < L.length) : ∃ l, L[i]? = some l := ⟨L[i], by simp [h]⟩
section
variable {w0 w : World} {os : List Ob} {k p cols : Nat} {L : List Ln}
theorem set_at {k : Nat} {o o' : Ob} (hk : os[k]? = some o) : (os.set k o')[k]? = some o' := List.getElem?_set_self (List.getElem?_eq_some_iff.1 hk).1
theorem PutG {i j : Nat} (x : Cell) (hT : Tabs w0) (hS : Objs w0 w os) (hk : os[k]? = some (.grid p 35 cols L)) (hcm : cols ≤ 1000) (hR : Rect cols L) (hi : i < L.length) (hv : x.ok = true) (hw : ¬ x.width = 0) (hfit : (j : Int) + x.width ≤ cols) :
    Calls Tryd.prog 43 #[.pointer (some ⟨p, 0, none⟩), .int .i64 i, .int .i64 j, .agg (cv x)] w fun e w' => e = .returned (.int .i64 0) ∧ Objs w0 w' (os.set k (.grid p 35 cols (rowMod i (putC j x) L))) := by
  obtain ⟨l, hl⟩ := get_of hi
  rw [rowMod_some hl]
  have hxw : 1 ≤ x.width := by rcases ok_w12 hv hw with h | h <;> omega
  exact front_call hS hk (fun os1 h => Put_yes x hT h (by omega) hcm hl (hR.at_ hl) hv hw hfit)
theorem r14PutG {i j : Nat} (x : Cell) (hS : Objs w0 w os) (hk : os[k]? = some (.grid p 48 cols L)) (hcm : cols ≤ 1000) (hR : Rect cols L) (hi : i < L.length) (hv : x.ok = true) (hw : ¬ x.width = 0) (hfit : (j : Int) + x.width ≤ cols) :
    Calls Tryd.prog 59 #[.pointer (some ⟨p, 0, none⟩), .int .i64 i, .int .i64 j, .agg (cv x)] w fun e w' => e = .returned (.tuple #[]) ∧ Objs w0 w' (os.set k (.grid p 48 cols (rowMod i (putC j x) L))) := by
  obtain ⟨l, hl⟩ := get_of hi
  rw [rowMod_some hl]
  have hxw : 1 ≤ x.width := by rcases ok_w12 hv hw with h | h <;> omega
  exact front_call hS hk (fun os1 h => r14Put_any x h (by omega) hcm hl (hR.at_ hl) hv hw hfit)
theorem SetSoftG {i : Nat} (s : Bool) (hS : Objs w0 w os) (hk : os[k]? = some (.grid p 35 cols L)) (hc : 0 < cols) (hi : i < L.length) (hlen : L.length ≤ 1000000) :
    Calls Tryd.prog 45 #[.pointer (some ⟨p, 0, none⟩), .int .i64 i, .bool s] w fun e w' => e = .returned (.int .i64 0) ∧ Objs w0 w' (os.set k (.grid p 35 cols (softMod i s L))) := by
  obtain ⟨l, hl⟩ := get_of hi
  rw [softMod_some hl]
  exact front_call hS hk (fun os1 h => SetSoft_yes s h hc hl hlen)
theorem ClearG {i f t : Nat} (q : Pen) (hT : Tabs w0) (hS : Objs w0 w os) (hk : os[k]? = some (.grid p 35 cols L)) (hc : 0 < cols) (hcm : cols ≤ 1000) (hR : Rect cols L) (hi : i < L.length) (hq : q.ok = true) (hft : f ≤ t) (ht : t ≤ cols) :
    Calls Tryd.prog 48 #[.pointer (some ⟨p, 0, none⟩), .int .i64 i, .int .i64 f, .int .i64 t, .agg (pv q)] w fun e w' => e = .returned (.int .i64 0) ∧ Objs w0 w' (os.set k (.grid p 35 cols (rowMod i (clearC f t q) L))) := by
  obtain ⟨l, hl⟩ := get_of hi
  rw [rowMod_some hl]
  rcases Nat.lt_or_ge f t with h1 | h1
  · exact front_call hS hk (fun os1 h => Clear_yes q hT h hc hcm hl (hR.at_ hl) hq h1 ht)
  · have e : clearC f t q l.1 = l.1 := by unfold clearC; rw [if_neg (by omega)]
    rw [e, set_self hl]
    exact front_call hS hk (fun os1 h => Clear_none q hT h hc hcm (by omega) (by omega) hq)
theorem r14ClearG {i f t : Nat} (q : Pen) (hS : Objs w0 w os) (hk : os[k]? = some (.grid p 48 cols L)) (hc : 0 < cols) (hcm : cols ≤ 1000) (hR : Rect cols L) (hi : i < L.length) (ht : t ≤ cols) :
    Calls Tryd.prog 76 #[.pointer (some ⟨p, 0, none⟩), .int .i64 i, .int .i64 f, .int .i64 t, .agg (pv q)] w fun e w' => e = .returned (.tuple #[]) ∧ Objs w0 w' (os.set k (.grid p 48 cols (rowMod i (clearC f t q) L))) := by
  obtain ⟨l, hl⟩ := get_of hi
  rw [rowMod_some hl]
  rcases Nat.lt_or_ge f t with h1 | h1
  · exact front_call hS hk (fun os1 h => r14Clear_yes q h hc hcm hl (hR.at_ hl) h1 ht)
  · have e : clearC f t q l.1 = l.1 := by unfold clearC; rw [if_neg (by omega)]
    rw [e, set_self hl]
    exact front_call hS hk (fun os1 h => r14Clear_none q h hc hcm hl (hR.at_ hl) h1)
theorem CopyG (hS : Objs w0 w os) (hk : os[k]? = some (.grid p 35 cols L)) (hc : 0 < cols) (hcm : cols ≤ 1000) (hR : Rect cols L) (hL : L.length ≤ 1000000) :
    Calls Tryd.prog 30 #[.pointer (some ⟨p, 0, none⟩)] w fun e w' => ∃ p2, e = .returned (.pointer (some ⟨p2, 0, none⟩)) ∧ Objs w0 w' (.grid p2 35 cols L :: os) := by
  have hS2 := hS.lift hk
  refine (Copy_front hS2 hc (hR.mill hcm) hL).mono ?_
  rintro e w' ⟨p2, rfl, h⟩
  have h2 := h.lowerNew hk
  rw [set_self hk] at h2
  exact ⟨p2, rfl, h2⟩
end
end Go.Proofs.YtjligfbaljnhnaaDoor

/-
  Erasing, in plain lists: what becomes of a row, of all rows.
-/
set_option linter.unusedSimpArgs false
set_option linter.unusedVariables false
namespace Go.Proofs.YtjligfbaljnhnaaDoor
open Go.RowKit

theorem cAt_set (cs : List Cell) (i j : Nat) (x : Cell) : cAt (cs.set i x) j = if i = j ∧ i < cs.length then x else cAt cs j := by
  unfold cAt
  simp only [List.getD_eq_getElem?_getD, List.getElem?_set]
  by_cases h : i = j
  · subst h
    by_cases h2 : i < cs.length
    · simp [h2]
    · simp [h2]
  · simp [h]
theorem cells_ext {xs ys : List Cell} (hl : xs.length = ys.length) (h : ∀ j, j < xs.length → cAt xs j = cAt ys j) : xs = ys := by
  apply List.ext_getElem hl
  intro j h1 h2
  have := h j h1
  rwa [cAt_eq h1, cAt_eq h2] at this
theorem cAt_brk (c : Nat) (cs : List Cell) (j : Nat) : cAt (brk c cs) j = if (1 ≤ c ∧ c < cs.length ∧ (cAt cs (c - 1)).width = 2) ∧ (j + 1 = c ∨ j = c) then blank (cAt cs j).pen else cAt cs j := by
  cases c with
  | zero => simp [brk]
  | succ m =>
    rw [brk_succ]
    by_cases h : m + 1 < cs.length ∧ (cAt cs m).width = 2
    · rw [if_pos h, cAt_set, cAt_set]
      simp only [List.length_set, Nat.add_sub_cancel]
      by_cases h1 : m + 1 = j
      · subst h1; simp [h.1, h.2]
      · by_cases h2 : m = j
        · subst h2; simp [h.2, show m < cs.length by omega, h.1]
        · rw [if_neg (by omega), if_neg (by omega), if_neg (by omega)]
    · rw [if_neg h, if_neg]
      simp only [Nat.add_sub_cancel]
      intro h2; exact h ⟨h2.1.2.1, h2.1.2.2⟩
theorem cAt_wipe {a m : Nat} {p : Pen} {cs : List Cell} (h : a + m ≤ cs.length) (j : Nat) : cAt (wipeC a m p cs) j = if a ≤ j ∧ j < a + m then blank p else cAt cs j := by
  unfold cAt wipeC
  simp only [List.getD_eq_getElem?_getD]
  by_cases h1 : j < a
  · rw [if_neg (by omega), List.append_assoc, List.getElem?_append_left (by simp; omega), List.getElem?_take, if_pos h1]
  · by_cases h2 : j < a + m
    · rw [if_pos ⟨by omega, h2⟩, List.append_assoc, List.getElem?_append_right (by simp; omega), List.getElem?_append_left (by simp; omega)]
      simp [List.getElem?_replicate, show min a cs.length = a by omega, show j - a < m by omega]
    · rw [if_neg (by omega), List.getElem?_append_right (by simp; omega), List.getElem?_drop]
      congr 2
      simp; omega
theorem cAt_clear {f t : Nat} {q : Pen} {cs : List Cell} (hf : f < t) (ht : t ≤ cs.length) (j : Nat) : cAt (clearC f t q cs) j = if f ≤ j ∧ j < t then blank q else cAt (brk t (brk f cs)) j := by
  unfold clearC
  rw [if_pos hf, cAt_wipe (by simp [brk_length]; omega)]
  simp only [show f + (t - f) = t by omega]
/-- Where nothing is left to clear. -/
theorem clear_id {f t : Nat} {q : Pen} {cs : List Cell} (hf : f < t) (ht : t ≤ cs.length) (h1 : ∀ j, f ≤ j → j < t → cAt cs j = blank q) (h2 : 1 ≤ f → ¬ (cAt cs (f - 1)).width = 2) : clearC f t q cs = cs := by
  refine cells_ext (clearC_length ht) (fun j hj => ?_)
  have e1 : brk f cs = cs := by
    refine cells_ext (brk_length _ _) (fun j hj => ?_)
    rw [cAt_brk, if_neg]
    intro h; exact h2 h.1.1 h.1.2.2
  rw [cAt_clear hf ht, e1]
  split
  · rename_i h; exact (h1 j h.1 h.2).symm
  · rw [cAt_brk, if_neg]
    intro h
    have := h.1.2.2
    rw [h1 (t - 1) (by omega) (by omega)] at this
    simp [blank] at this
theorem clear_in {f t : Nat} {q : Pen} {cs : List Cell} (hf : f < t) (ht : t ≤ cs.length) {j : Nat} (h1 : f ≤ j) (h2 : j < t) : cAt (clearC f t q cs) j = blank q := by
  rw [cAt_clear hf ht, if_pos ⟨h1, h2⟩]
theorem clear_before {f t : Nat} {q : Pen} {cs : List Cell} (hf : f < t) (ht : t ≤ cs.length) (h : 1 ≤ f) : ¬ (cAt (clearC f t q cs) (f - 1)).width = 2 := by
  rw [cAt_clear hf ht, if_neg (by omega), cAt_brk, if_neg (by omega), cAt_brk]
  split
  · simp [blank]
  · rename_i hn
    intro h2
    exact hn ⟨⟨h, by omega, h2⟩, .inl (by omega)⟩
theorem clear_far {f t : Nat} {q : Pen} {cs : List Cell} (hf : f < t) (ht : t ≤ cs.length) {j : Nat} (h : j + 1 < f) : cAt (clearC f t q cs) j = cAt cs j := by
  rw [cAt_clear hf ht, if_neg (by omega), cAt_brk, if_neg (by omega), cAt_brk, if_neg (by omega)]
theorem clear_twice {f t : Nat} {q : Pen} {cs : List Cell} (hf : f < t) (ht : t ≤ cs.length) : clearC f t q (clearC f t q cs) = clearC f t q cs :=
  clear_id hf (by rw [clearC_length ht]; exact ht) (fun j h1 h2 => clear_in hf ht h1 h2) (clear_before hf ht)
theorem clear_all {n : Nat} {q : Pen} {cs : List Cell} (hn : cs.length = n) (h0 : 0 < n) : clearC 0 n q cs = List.replicate n (blank q) := by
  refine cells_ext (by rw [clearC_length (by omega), List.length_replicate, hn]) (fun j hj => ?_)
  rw [clearC_length (by omega), hn] at hj
  rw [clear_in h0 (by omega) (Nat.zero_le _) hj]
  simp [cAt, List.getD_eq_getElem?_getD, List.getElem?_replicate, hj]
theorem clear_start_end {n c : Nat} {q : Pen} {cs : List Cell} (hn : cs.length = n) (h0 : c < n) : clearC 0 (c + 1) q (clearC c n q cs) = List.replicate n (blank q) := by
  have hl : (clearC c n q cs).length = n := by rw [clearC_length (by omega), hn]
  refine cells_ext (by rw [clearC_length (by omega), List.length_replicate, hl]) (fun j hj => ?_)
  rw [clearC_length (by omega), hl] at hj
  have e : cAt (List.replicate n (blank q)) j = blank q := by simp [cAt, List.getD_eq_getElem?_getD, List.getElem?_replicate, hj]
  rw [e]
  rcases Nat.lt_or_ge j (c + 1) with h | h
  · exact clear_in (by omega) (by omega) (Nat.zero_le _) h
  · rw [cAt_clear (by omega) (by omega), if_neg (by omega)]
    have e0 : brk 0 (clearC c n q cs) = clearC c n q cs := rfl
    rw [e0, cAt_brk, if_neg, clear_in h0 (by omega) (by omega) hj]
    intro h2
    have := h2.1.2.2
    rw [Nat.add_sub_cancel, clear_in h0 (by omega) (Nat.le_refl _) h0] at this
    simp [blank] at this
theorem clear_end_start {n c : Nat} {q : Pen} {cs : List Cell} (hn : cs.length = n) (h0 : c < n) : clearC c n q (clearC 0 (c + 1) q cs) = List.replicate n (blank q) := by
  have hl : (clearC 0 (c + 1) q cs).length = n := by rw [clearC_length (by omega), hn]
  refine cells_ext (by rw [clearC_length (by omega), List.length_replicate, hl]) (fun j hj => ?_)
  rw [clearC_length (by omega), hl] at hj
  have e : cAt (List.replicate n (blank q)) j = blank q := by simp [cAt, List.getD_eq_getElem?_getD, List.getElem?_replicate, hj]
  rw [e]
  rcases Nat.lt_or_ge j c with h | h
  · rw [cAt_clear h0 (by omega), if_neg (by omega), cAt_brk, if_neg (by simp [brk_length]; omega), cAt_brk, if_neg, clear_in (by omega) (by omega) (Nat.zero_le _) (by omega)]
    intro h2
    have := h2.1.2.2
    rw [clear_in (by omega) (by omega) (Nat.zero_le _) (by omega)] at this
    simp [blank] at this
  · exact clear_in h0 (by omega) h hj

/-- A row's line turns. -/
def lnMod (i : Nat) (F : Ln → Ln) (L : List Ln) : List Ln := match L[i]? with | some l => L.set i (F l) | none => L
theorem lnMod_get (i : Nat) (F : Ln → Ln) (L : List Ln) (r : Nat) : (lnMod i F L)[r]? = (L[r]?).map (fun l => if r = i then F l else l) := by
  unfold lnMod
  split
  · rename_i l hl
    rw [List.getElem?_set]
    by_cases h : i = r
    · subst h
      have hi := (List.getElem?_eq_some_iff.1 hl).1
      rw [if_pos rfl, if_pos hi, hl]
      simp
    · rw [if_neg h]
      have h' : ¬ r = i := fun e => h e.symm
      simp [h']
  · rename_i hl
    by_cases h : r = i
    · subst h; rw [hl]; rfl
    · simp [h]
theorem lnMod_length (i : Nat) (F : Ln → Ln) (L : List Ln) : (lnMod i F L).length = L.length := by unfold lnMod; split <;> simp
theorem rowMod_is (i : Nat) (f : List Cell → List Cell) (L : List Ln) : rowMod i f L = lnMod i (fun l => (f l.1, l.2)) L := rfl
theorem softMod_is (i : Nat) (s : Bool) (L : List Ln) : softMod i s L = lnMod i (fun l => (l.1, s)) L := rfl
theorem lnMod_lnMod (i : Nat) (F G : Ln → Ln) (L : List Ln) : lnMod i F (lnMod i G L) = lnMod i (fun l => F (G l)) L := by
  apply List.ext_getElem?
  intro r
  rw [lnMod_get, lnMod_get, lnMod_get, Option.map_map]
  congr 1
  funext l
  by_cases h : r = i <;> simp [h]
theorem Rect.lnMod {n : Nat} {L : List Ln} (h : Rect n L) (i : Nat) {F : Ln → Ln} (hF : ∀ l : Ln, l.1.length = n → (F l).1.length = n) : Rect n (lnMod i F L) := by
  unfold Proofs.YtjligfbaljnhnaaDoor.lnMod
  split
  · rename_i l hl; exact rect_set h (hF _ (h.at_ hl))
  · exact h
/-- What becomes of a line of which the columns f to t are erased. -/
def eRow (cols f t : Nat) (q : Pen) (l : Ln) : Ln := (clearC f t q l.1, if f < t ∧ t = cols then false else l.2)
def eraseRow (cols i f t : Nat) (q : Pen) (L : List Ln) : List Ln := lnMod i (eRow cols f t q) L
theorem eraseRow_soft {cols i f t : Nat} {q : Pen} {L : List Ln} (h : f < t ∧ t = cols) : softMod i false (rowMod i (clearC f t q) L) = eraseRow cols i f t q L := by
  rw [softMod_is, rowMod_is, lnMod_lnMod]
  unfold eraseRow
  congr 1
  funext l
  simp only [eRow, if_pos h]
theorem eraseRow_keep {cols i f t : Nat} {q : Pen} {L : List Ln} (h : ¬ (f < t ∧ t = cols)) : rowMod i (clearC f t q) L = eraseRow cols i f t q L := by
  rw [rowMod_is]
  unfold eraseRow
  congr 1
  funext l
  simp only [eRow, if_neg h]
theorem eRow_length {cols f t : Nat} {q : Pen} {l : Ln} (hl : l.1.length = cols) (ht : t ≤ cols) : (eRow cols f t q l).1.length = cols := by
  show (clearC f t q l.1).length = cols
  rw [clearC_length (by omega), hl]
theorem Rect.eraseRow {cols : Nat} {L : List Ln} (h : Rect cols L) (i f : Nat) {t : Nat} (q : Pen) (ht : t ≤ cols) : Rect cols (eraseRow cols i f t q L) := h.lnMod i (fun l hl => eRow_length hl ht)
theorem eraseRow_length (cols i f t : Nat) (q : Pen) (L : List Ln) : (eraseRow cols i f t q L).length = L.length := lnMod_length _ _ _
def eFrom (k : Int) (col : Nat) : Nat := if k = 0 then col else 0
def eTo (k : Int) (col cols : Nat) : Nat := if k = 1 then col + 1 else cols
theorem eTo_le {k : Int} {col cols : Nat} (h : col < cols) : eTo k col cols ≤ cols := by unfold eTo; split <;> omega
theorem eFrom_lt {k : Int} {col cols : Nat} (h : col < cols) : eFrom k col < eTo k col cols := by unfold eFrom eTo; split <;> split <;> omega
def eraseLine (cols row col : Nat) (k : Int) (q : Pen) (L : List Ln) : List Ln := eraseRow cols row (eFrom k col) (eTo k col cols) q L
/-- The other rows' part of erasing in the screen: the first n rows are done. -/
def otherRow (row : Nat) (k : Int) (n : Nat) : Prop := (n < row ∧ ¬ k = 0) ∨ (row < n ∧ ¬ k = 1)
instance (row : Nat) (k : Int) (n : Nat) : Decidable (otherRow row k n) := by unfold otherRow; infer_instance
def eraseOthers (cols row : Nat) (k : Int) (q : Pen) : Nat → List Ln → List Ln
  | 0, L => L
  | n + 1, L => if otherRow row k n then eraseRow cols n 0 cols q (eraseOthers cols row k q n L) else eraseOthers cols row k q n L
def eraseScr (cols row col : Nat) (k : Int) (q : Pen) (L : List Ln) : List Ln := eraseOthers cols row k q L.length (eraseLine cols row col k q L)
def eraseCh (cols row col : Nat) (n : Int) (q : Pen) (L : List Ln) : List Ln := eraseRow cols row col (col + (min n ((cols - col : Nat) : Int)).toNat) q L
theorem eraseOthers_length (cols row : Nat) (k : Int) (q : Pen) (n : Nat) (L : List Ln) : (eraseOthers cols row k q n L).length = L.length := by
  induction n with
  | zero => rfl
  | succ n ih => unfold eraseOthers; split <;> simp [eraseRow_length, ih]
theorem Rect.eraseOthers {cols : Nat} {L : List Ln} (h : Rect cols L) (row : Nat) (k : Int) (q : Pen) (n : Nat) : Rect cols (eraseOthers cols row k q n L) := by
  induction n with
  | zero => exact h
  | succ n ih => unfold Proofs.YtjligfbaljnhnaaDoor.eraseOthers; split; exact ih.eraseRow _ _ _ (Nat.le_refl _); exact ih
theorem Rect.eraseLine {cols : Nat} {L : List Ln} (h : Rect cols L) (row : Nat) {col : Nat} (k : Int) (q : Pen) (hc : col < cols) : Rect cols (eraseLine cols row col k q L) := h.eraseRow _ _ _ (eTo_le hc)
theorem eraseLine_length (cols row col : Nat) (k : Int) (q : Pen) (L : List Ln) : (eraseLine cols row col k q L).length = L.length := eraseRow_length _ _ _ _ _ _
theorem Rect.eraseScr {cols : Nat} {L : List Ln} (h : Rect cols L) (row : Nat) {col : Nat} (k : Int) (q : Pen) (hc : col < cols) : Rect cols (eraseScr cols row col k q L) := (h.eraseLine row k q hc).eraseOthers _ _ _ _
theorem eraseScr_length (cols row col : Nat) (k : Int) (q : Pen) (L : List Ln) : (eraseScr cols row col k q L).length = L.length := by unfold eraseScr; rw [eraseOthers_length, eraseLine_length]
theorem eraseCh_to {cols col : Nat} (n : Int) (h : col < cols) (hn : 0 ≤ n) : col + (min n ((cols - col : Nat) : Int)).toNat ≤ cols := by omega
theorem Rect.eraseCh {cols : Nat} {L : List Ln} (h : Rect cols L) (row : Nat) {col : Nat} (n : Int) (q : Pen) (hc : col < cols) (hn : 0 ≤ n) : Rect cols (eraseCh cols row col n q L) := h.eraseRow _ _ _ (eraseCh_to n hc hn)
theorem eraseCh_length (cols row col : Nat) (n : Int) (q : Pen) (L : List Ln) : (eraseCh cols row col n q L).length = L.length := eraseRow_length _ _ _ _ _ _

/-- What becomes of each row. -/
theorem eraseRow_get (cols i f t : Nat) (q : Pen) (L : List Ln) (r : Nat) : (eraseRow cols i f t q L)[r]? = (L[r]?).map (fun l => if r = i then eRow cols f t q l else l) := lnMod_get _ _ _ _
theorem eraseOthers_get (cols row : Nat) (k : Int) (q : Pen) (n : Nat) (L : List Ln) (r : Nat) : (eraseOthers cols row k q n L)[r]? = (L[r]?).map (fun l => if r < n ∧ otherRow row k r then eRow cols 0 cols q l else l) := by
  induction n with
  | zero => simp [eraseOthers]
  | succ n ih =>
    unfold eraseOthers
    split
    · rename_i h
      rw [eraseRow_get, ih, Option.map_map]
      congr 1
      funext l
      by_cases e : r = n
      · subst e; simp [h]
      · simp [e, show r < n + 1 ↔ r < n by omega]
    · rename_i h
      rw [ih]
      congr 1
      funext l
      by_cases e : r = n
      · subst e; simp [h]
      · simp [show r < n + 1 ↔ r < n by omega]
def scrAct (cols row col : Nat) (k : Int) (q : Pen) (r : Nat) (l : Ln) : Ln := if r = row then eRow cols (eFrom k col) (eTo k col cols) q l else if otherRow row k r then eRow cols 0 cols q l else l
theorem eraseScr_get (cols row col : Nat) (k : Int) (q : Pen) (L : List Ln) (r : Nat) : (eraseScr cols row col k q L)[r]? = (L[r]?).map (scrAct cols row col k q r) := by
  unfold eraseScr
  rw [eraseOthers_get, eraseLine, eraseRow_get, Option.map_map]
  rcases Nat.lt_or_ge r L.length with hr | hr
  · congr 1
    funext l
    unfold scrAct
    by_cases e : r = row
    · subst e; simp [otherRow]
    · simp [e, hr]
  · rw [List.getElem?_eq_none hr]; rfl
theorem eraseLine_get (cols row col : Nat) (k : Int) (q : Pen) (L : List Ln) (r : Nat) : (eraseLine cols row col k q L)[r]? = (L[r]?).map (fun l => if r = row then eRow cols (eFrom k col) (eTo k col cols) q l else l) := eraseRow_get _ _ _ _ _ _ _
theorem lines_eq {n : Nat} {A B L : List Ln} (hR : Rect n L) {f g : Nat → Ln → Ln} (hA : ∀ r, A[r]? = (L[r]?).map (f r)) (hB : ∀ r, B[r]? = (L[r]?).map (g r)) (h : ∀ r (l : Ln), l.1.length = n → f r l = g r l) : A = B := by
  apply List.ext_getElem?
  intro r
  rw [hA, hB]
  cases hl : L[r]? with
  | none => rfl
  | some l => simp [h r l (hR.at_ hl)]
theorem map2 {A B L : List Ln} {f g : Nat → Ln → Ln} (hB : ∀ r, B[r]? = (L[r]?).map (f r)) (hA : ∀ r, A[r]? = (B[r]?).map (g r)) (r : Nat) : A[r]? = (L[r]?).map (fun l => g r (f r l)) := by
  rw [hA, hB, Option.map_map]; rfl
section
variable {cols row col : Nat} {k : Int} {q : Pen} {L : List Ln}
theorem eRow_twice {f t : Nat} {l : Ln} (hf : f < t) (ht : t ≤ cols) (hl : l.1.length = cols) : eRow cols f t q (eRow cols f t q l) = eRow cols f t q l := by
  unfold eRow
  rw [clear_twice hf (by omega)]
  by_cases h : t = cols <;> simp [hf, h]
theorem eRow_all {l : Ln} (h0 : 0 < cols) (hl : l.1.length = cols) : eRow cols 0 cols q l = (List.replicate cols (blank q), false) := by
  unfold eRow; rw [clear_all hl h0]; simp [h0]
theorem eRow_se {l : Ln} (hc : col < cols) (hl : l.1.length = cols) : eRow cols 0 (col + 1) q (eRow cols col cols q l) = (List.replicate cols (blank q), false) := by
  unfold eRow; rw [clear_start_end hl hc]; simp [hc]
theorem eRow_es {l : Ln} (hc : col < cols) (hl : l.1.length = cols) : eRow cols col cols q (eRow cols 0 (col + 1) q l) = (List.replicate cols (blank q), false) := by
  unfold eRow; rw [clear_end_start hl hc]; simp [hc]
theorem eraseLine_twice (hR : Rect cols L) (hc : col < cols) : eraseLine cols row col k q (eraseLine cols row col k q L) = eraseLine cols row col k q L :=
  lines_eq hR (map2 (eraseLine_get cols row col k q L) (eraseLine_get cols row col k q _)) (eraseLine_get cols row col k q L) (fun r l hl => by
    by_cases e : r = row
    · simp only [e, if_true]; exact eRow_twice (eFrom_lt hc) (eTo_le hc) hl
    · simp [e])
theorem eraseScr_twice (hR : Rect cols L) (hc : col < cols) : eraseScr cols row col k q (eraseScr cols row col k q L) = eraseScr cols row col k q L :=
  lines_eq hR (map2 (eraseScr_get cols row col k q L) (eraseScr_get cols row col k q _)) (eraseScr_get cols row col k q L) (fun r l hl => by
    unfold scrAct
    by_cases e : r = row
    · simp only [e, if_true]; exact eRow_twice (eFrom_lt hc) (eTo_le hc) hl
    · simp only [e, if_false]
      split
      · exact eRow_twice (by omega) (Nat.le_refl _) hl
      · rfl)
theorem eraseLine_se (hR : Rect cols L) (hc : col < cols) : eraseLine cols row col 1 q (eraseLine cols row col 0 q L) = eraseLine cols row col 2 q L :=
  lines_eq hR (map2 (eraseLine_get cols row col 0 q L) (eraseLine_get cols row col 1 q _)) (eraseLine_get cols row col 2 q L) (fun r l hl => by
    by_cases e : r = row
    · simp only [e, if_true]
      exact (eRow_se hc hl).trans (eRow_all (by omega) hl).symm
    · simp [e])
theorem eraseLine_es (hR : Rect cols L) (hc : col < cols) : eraseLine cols row col 0 q (eraseLine cols row col 1 q L) = eraseLine cols row col 2 q L :=
  lines_eq hR (map2 (eraseLine_get cols row col 1 q L) (eraseLine_get cols row col 0 q _)) (eraseLine_get cols row col 2 q L) (fun r l hl => by
    by_cases e : r = row
    · simp only [e, if_true]
      exact (eRow_es hc hl).trans (eRow_all (by omega) hl).symm
    · simp [e])
theorem scr_other (hc : col < cols) (r : Nat) (e : ¬ r = row) (l : Ln) (hl : l.1.length = cols) : scrAct cols row col 2 q r l = (List.replicate cols (blank q), false) := by
  unfold scrAct
  rw [if_neg e, if_pos (by unfold otherRow; omega)]
  exact eRow_all (by omega) hl
theorem eraseScr_se (hR : Rect cols L) (hc : col < cols) : eraseScr cols row col 1 q (eraseScr cols row col 0 q L) = eraseScr cols row col 2 q L :=
  lines_eq hR (map2 (eraseScr_get cols row col 0 q L) (eraseScr_get cols row col 1 q _)) (eraseScr_get cols row col 2 q L) (fun r l hl => by
    by_cases e : r = row
    · unfold scrAct
      simp only [e, if_true]
      exact (eRow_se hc hl).trans (eRow_all (by omega) hl).symm
    · rw [scr_other hc r e l hl]
      unfold scrAct
      simp only [e, if_false, otherRow]
      rcases Nat.lt_or_ge r row with h | h
      · rw [if_pos (by simp; omega), if_neg (by simp; omega)]
        exact eRow_all (by omega) hl
      · rw [if_neg (by simp; omega), if_pos (by simp; omega)]
        exact eRow_all (by omega) hl)
theorem eraseScr_es (hR : Rect cols L) (hc : col < cols) : eraseScr cols row col 0 q (eraseScr cols row col 1 q L) = eraseScr cols row col 2 q L :=
  lines_eq hR (map2 (eraseScr_get cols row col 1 q L) (eraseScr_get cols row col 0 q _)) (eraseScr_get cols row col 2 q L) (fun r l hl => by
    by_cases e : r = row
    · unfold scrAct
      simp only [e, if_true]
      exact (eRow_es hc hl).trans (eRow_all (by omega) hl).symm
    · rw [scr_other hc r e l hl]
      unfold scrAct
      simp only [e, if_false, otherRow]
      rcases Nat.lt_or_ge r row with h | h
      · rw [if_neg (by simp; omega), if_pos (by simp; omega)]
        exact eRow_all (by omega) hl
      · rw [if_pos (by simp; omega), if_neg (by simp; omega)]
        exact eRow_all (by omega) hl)
theorem eraseCh_end (hc : col < cols) : eraseCh cols row col ((cols : Int) - col) q L = eraseLine cols row col 0 q L := by
  unfold eraseCh eraseLine
  rw [show col + (min ((cols : Int) - col) ((cols - col : Nat) : Int)).toNat = cols by omega]
  rfl
end
end Go.Proofs.YtjligfbaljnhnaaDoor

/-
  Erasing by the program: its check, cells, part.
-/
set_option linter.unusedSimpArgs false
set_option linter.unusedVariables false
namespace Go.Proofs.YtjligfbaljnhnaaDoor
open Go.RowKit

/-- Whether a cursor is in a grid. -/
def inG (row col : Int) (pend : Bool) (rows cols : Nat) : Bool := decide ((0 ≤ row ∧ row < rows) ∧ (0 ≤ col ∧ col < cols) ∧ (pend = true → col = (cols : Int) - 1))
theorem ingrid_iff {row col : Int} {pend : Bool} {rows cols : Nat} : inG row col pend rows cols = true ↔ (0 ≤ row ∧ row < rows) ∧ (0 ≤ col ∧ col < cols) ∧ (pend = true → col = (cols : Int) - 1) := decide_eq_true_iff
def checkE (row col : Int) (pend : Bool) (q : Pen) (rows cols : Nat) : Int := if inG row col pend rows cols = true ∧ q.ok = true then 0 else 2
theorem check_cases (row col : Int) (pend : Bool) (q : Pen) (rows cols : Nat) :
    ((row < 0) ∧ Hid (checkE row col pend q rows cols = 2)) ∨ ((0 ≤ row ∧ (rows : Int) ≤ row) ∧ Hid (checkE row col pend q rows cols = 2)) ∨
    ((0 ≤ row ∧ row < rows) ∧ col < 0 ∧ Hid (checkE row col pend q rows cols = 2)) ∨ ((0 ≤ row ∧ row < rows) ∧ (0 ≤ col ∧ (cols : Int) ≤ col) ∧ Hid (checkE row col pend q rows cols = 2)) ∨
    ((0 ≤ row ∧ row < rows) ∧ (0 ≤ col ∧ col < cols) ∧ Hid (pend = true) ∧ ((col == (cols : Int) - 1) = false ∧ (col != (cols : Int) - 1) = true) ∧ Hid (checkE row col pend q rows cols = 2)) ∨
    ((0 ≤ row ∧ row < rows) ∧ (0 ≤ col ∧ col < cols) ∧ Hid (pend = true) ∧ ((col == (cols : Int) - 1) = true ∧ (col != (cols : Int) - 1) = false) ∧ Hid (checkE row col pend q rows cols = if q.ok then 0 else 2)) ∨
    ((0 ≤ row ∧ row < rows) ∧ (0 ≤ col ∧ col < cols) ∧ Hid (pend = false) ∧ Hid (checkE row col pend q rows cols = if q.ok then 0 else 2)) := by
  have no : ∀ h : ¬ inG row col pend rows cols = true, checkE row col pend q rows cols = 2 := fun h => if_neg (fun h2 => h h2.1)
  by_cases h1 : row < 0
  · exact .inl ⟨h1, Lib.hid (no (by rw [ingrid_iff]; omega))⟩
  by_cases h2 : (rows : Int) ≤ row
  · exact .inr (.inl ⟨⟨by omega, h2⟩, Lib.hid (no (by rw [ingrid_iff]; omega))⟩)
  by_cases h3 : col < 0
  · exact .inr (.inr (.inl ⟨⟨by omega, by omega⟩, h3, Lib.hid (no (by rw [ingrid_iff]; omega))⟩))
  by_cases h4 : (cols : Int) ≤ col
  · exact .inr (.inr (.inr (.inl ⟨⟨by omega, by omega⟩, ⟨by omega, h4⟩, Lib.hid (no (by rw [ingrid_iff]; omega))⟩)))
  cases pend with
  | true =>
    by_cases h5 : col = (cols : Int) - 1
    · refine .inr (.inr (.inr (.inr (.inr (.inl ⟨⟨by omega, by omega⟩, ⟨by omega, by omega⟩, Lib.hid rfl, ⟨beq_yes h5, bne_no h5⟩, Lib.hid ?_⟩)))))
      have : inG row col true rows cols = true := by rw [ingrid_iff]; omega
      unfold checkE; simp [this]
    · exact .inr (.inr (.inr (.inr (.inl ⟨⟨by omega, by omega⟩, ⟨by omega, by omega⟩, Lib.hid rfl, ⟨beq_no h5, bne_yes h5⟩, Lib.hid (no (by rw [ingrid_iff]; intro h; exact h5 (h.2.2 rfl)))⟩))))
  | false =>
    refine .inr (.inr (.inr (.inr (.inr (.inr ⟨⟨by omega, by omega⟩, ⟨by omega, by omega⟩, Lib.hid rfl, Lib.hid ?_⟩)))))
    have : inG row col false rows cols = true := by rw [ingrid_iff]; refine ⟨by omega, by omega, fun h => by cases h⟩
    unfold checkE; simp [this]
theorem results_tmp4 {fn : Func} {t u v x : Tmp} (h : fn.results = #[.tmp t, .tmp u, .tmp v, .tmp x]) (tmps : Array Value) (P : Program) (w : World) :
    (results fn tmps).run P w = .ok (.tuple #[tmps.getD t undef, tmps.getD u undef, tmps.getD v undef, tmps.getD x undef]) w := by
  simp [results, h]
section
variable {w0 w : World} {os : List Ob} {k p cols : Nat} {L : List Ln}
theorem Rows_b {t : TypeId} {cols : Int} {A : Option Addr} {n c : Nat} (hB : Blk w p t #[.int .i64 cols, .slice A n c]) : Calls Tryd.prog 19 #[.pointer (some ⟨p, 0, none⟩)] w fun e w' => e = .returned (.int .i64 n) ∧ Below w.heap.size w w' := by
  obtain ⟨hx, hf, hz⟩ := hB.facts
  clear hB
  go_enter Tryd.func19, Tryd.ntmps19
  go_wp2_with fail
  go_ret
  exact ⟨rfl, Below.refl _ _⟩
theorem Cols_b {t : TypeId} {cols : Int} {A : Option Addr} {n c : Nat} (hB : Blk w p t #[.int .i64 cols, .slice A n c]) : Calls Tryd.prog 20 #[.pointer (some ⟨p, 0, none⟩)] w fun e w' => e = .returned (.int .i64 cols) ∧ Below w.heap.size w w' := by
  obtain ⟨hx, hf, hz⟩ := hB.facts
  clear hB
  go_enter Tryd.func20, Tryd.ntmps20
  go_wp2_with fail
  go_ret
  exact ⟨rfl, Below.refl _ _⟩
set_option maxHeartbeats 4000000 in
theorem erasecheck_any {row col : Int} {pend : Bool} (q : Pen) (hT : Tabs w0) (hS : Objs w0 w os) (hk : os[k]? = some (.grid p 35 cols L)) (hc : 0 < cols) (hcm : cols ≤ 1000) (hL : 0 < L.length) :
    Calls Tryd.prog 67 #[.pointer (some ⟨p, 0, none⟩), .agg #[.int .i64 row, .int .i64 col, .bool pend], .agg (pv q)] w fun e w' => e = .returned (.int .i64 (checkE row col pend q L.length cols)) ∧ Objs w0 w' os := by
  have S := Lib.hid hS
  have HT := Lib.hid hT
  have HK := Lib.hid hk
  have hl0 : ((L.length : Int) == 0) = false := by simp; intro h; rw [h] at hL; simp at hL
  clear hS hT hk
  rcases check_cases row col pend q L.length cols with ⟨h1, HE⟩ | ⟨⟨h1, h1b⟩, HE⟩ | ⟨⟨h1, h1b⟩, h2, HE⟩ | ⟨⟨h1, h1b⟩, ⟨h2, h2b⟩, HE⟩ | ⟨⟨h1, h1b⟩, ⟨h2, h2b⟩, hp, ⟨h3, h4⟩, HE⟩ | ⟨⟨h1, h1b⟩, ⟨h2, h2b⟩, hp, ⟨h3, h4⟩, HE⟩ | ⟨⟨h1, h1b⟩, ⟨h2, h2b⟩, hp, HE⟩
  · have d1 : decide (row < 0) = true := by simpa using h1
    go_enter Tryd.func67, Tryd.ntmps67
    go_wp2_with fail
    refine (Rows_any S.out.alloc2 (k := k + 2) HK.out).mono ?_
    rintro e w1 ⟨rfl, hS⟩
    have S1 := Lib.hid hS
    obtain ⟨A, c, hB, -, -⟩ := hS.gridRd (k := k + 2) HK.out
    have HB := Lib.hid hB
    obtain ⟨hx5, hf5, hz5⟩ := (hS.box (k := 1) rfl).facts
    clear hS hB
    go_wp2_with fail
    refine wp_region_below (by kernel_rfl) (by kernel_rfl) ?_
    repeat (go_big_quiet_step (first | (go_at_call 19; exact quiet_below (Rows_b (HB.out.bel (below_plus _ _)))) | (go_at_call 20; exact quiet_below (Cols_b (HB.out.bel (below_plus _ _))))))
    refine wpQuiet_nil ?_
    intro w2 hb2
    have S2 := Lib.hid (S1.out.bel hb2)
    clear hx5 hf5 hz5
    go_wp2_with fail
    go_ret
    exact ⟨by rw [HE.out]; rfl, S2.out.tail.tail⟩
  · have d1 : decide (row < 0) = false := by simp; omega
    have d2 : decide ((L.length : Int) ≤ row) = true := by simpa using h1b
    go_enter Tryd.func67, Tryd.ntmps67
    go_wp2_with fail
    refine (Rows_any S.out.alloc2 (k := k + 2) HK.out).mono ?_
    rintro e w1 ⟨rfl, hS⟩
    have S1 := Lib.hid hS
    obtain ⟨A, c, hB, -, -⟩ := hS.gridRd (k := k + 2) HK.out
    have HB := Lib.hid hB
    obtain ⟨hx5, hf5, hz5⟩ := (hS.box (k := 1) rfl).facts
    clear hS hB
    go_wp2_with fail
    refine wp_region_below (by kernel_rfl) (by kernel_rfl) ?_
    repeat (go_big_quiet_step (first | (go_at_call 19; exact quiet_below (Rows_b (HB.out.bel (below_plus _ _)))) | (go_at_call 20; exact quiet_below (Cols_b (HB.out.bel (below_plus _ _))))))
    refine wpQuiet_nil ?_
    intro w2 hb2
    have S2 := Lib.hid (S1.out.bel hb2)
    clear hx5 hf5 hz5
    go_wp2_with fail
    go_ret
    exact ⟨by rw [HE.out]; rfl, S2.out.tail.tail⟩
  · have d1 : decide (row < 0) = false := by simp; omega
    have d2 : decide ((L.length : Int) ≤ row) = false := by simp; omega
    have d3 : decide (col < 0) = true := by simpa using h2
    go_enter Tryd.func67, Tryd.ntmps67
    go_wp2_with fail
    refine (Rows_any S.out.alloc2 (k := k + 2) HK.out).mono ?_
    rintro e w1 ⟨rfl, hS⟩
    have S1 := Lib.hid hS
    obtain ⟨A, c, hB, -, -⟩ := hS.gridRd (k := k + 2) HK.out
    have HB := Lib.hid hB
    obtain ⟨hx5, hf5, hz5⟩ := (hS.box (k := 1) rfl).facts
    clear hS hB
    go_wp2_with fail
    refine wp_region_below (by kernel_rfl) (by kernel_rfl) ?_
    repeat (go_big_quiet_step (first | (go_at_call 19; exact quiet_below (Rows_b (HB.out.bel (below_plus _ _)))) | (go_at_call 20; exact quiet_below (Cols_b (HB.out.bel (below_plus _ _))))))
    refine wpQuiet_nil ?_
    intro w2 hb2
    have S2 := Lib.hid (S1.out.bel hb2)
    clear hx5 hf5 hz5
    go_wp2_with fail
    go_ret
    exact ⟨by rw [HE.out]; rfl, S2.out.tail.tail⟩
  · have d1 : decide (row < 0) = false := by simp; omega
    have d2 : decide ((L.length : Int) ≤ row) = false := by simp; omega
    have d3 : decide (col < 0) = false := by simp; omega
    have d4 : decide ((cols : Int) ≤ col) = true := by simpa using h2b
    go_enter Tryd.func67, Tryd.ntmps67
    go_wp2_with fail
    refine (Rows_any S.out.alloc2 (k := k + 2) HK.out).mono ?_
    rintro e w1 ⟨rfl, hS⟩
    have S1 := Lib.hid hS
    obtain ⟨A, c, hB, -, -⟩ := hS.gridRd (k := k + 2) HK.out
    have HB := Lib.hid hB
    obtain ⟨hx5, hf5, hz5⟩ := (hS.box (k := 1) rfl).facts
    clear hS hB
    go_wp2_with fail
    refine wp_region_below (by kernel_rfl) (by kernel_rfl) ?_
    repeat (go_big_quiet_step (first | (go_at_call 19; exact quiet_below (Rows_b (HB.out.bel (below_plus _ _)))) | (go_at_call 20; exact quiet_below (Cols_b (HB.out.bel (below_plus _ _))))))
    refine wpQuiet_nil ?_
    intro w2 hb2
    have S2 := Lib.hid (S1.out.bel hb2)
    clear hx5 hf5 hz5
    go_wp2_with fail
    go_ret
    exact ⟨by rw [HE.out]; rfl, S2.out.tail.tail⟩
  · have hp' := hp.out
    subst hp'
    have d1 : decide (row < 0) = false := by simp; omega
    have d2 : decide ((L.length : Int) ≤ row) = false := by simp; omega
    have d3 : decide (col < 0) = false := by simp; omega
    have d4 : decide ((cols : Int) ≤ col) = false := by simp; omega
    go_enter Tryd.func67, Tryd.ntmps67
    go_wp2_with fail
    refine (Rows_any S.out.alloc2 (k := k + 2) HK.out).mono ?_
    rintro e w1 ⟨rfl, hS⟩
    have S1 := Lib.hid hS
    obtain ⟨A, c, hB, -, -⟩ := hS.gridRd (k := k + 2) HK.out
    have HB := Lib.hid hB
    obtain ⟨hx5, hf5, hz5⟩ := (hS.box (k := 1) rfl).facts
    clear hS hB
    go_wp2_with fail
    refine wp_region_below (by kernel_rfl) (by kernel_rfl) ?_
    repeat (go_big_quiet_step (first | (go_at_call 19; exact quiet_below (Rows_b (HB.out.bel (below_plus _ _)))) | (go_at_call 20; exact quiet_below (Cols_b (HB.out.bel (below_plus _ _))))))
    refine wpQuiet_nil ?_
    intro w2 hb2
    have S2 := Lib.hid (S1.out.bel hb2)
    clear hx5 hf5 hz5
    go_wp2_with fail
    go_ret
    exact ⟨by rw [HE.out]; rfl, S2.out.tail.tail⟩
  · have hp' := hp.out
    subst hp'
    cases hq : q.ok with
    | true =>
      have HQ := Lib.hid hq
      clear hq
      have d1 : decide (row < 0) = false := by simp; omega
      have d2 : decide ((L.length : Int) ≤ row) = false := by simp; omega
      have d3 : decide (col < 0) = false := by simp; omega
      have d4 : decide ((cols : Int) ≤ col) = false := by simp; omega
      go_enter Tryd.func67, Tryd.ntmps67
      go_wp2_with fail
      refine (Rows_any S.out.alloc2 (k := k + 2) HK.out).mono ?_
      rintro e w1 ⟨rfl, hS⟩
      have S1 := Lib.hid hS
      obtain ⟨A, c, hB, -, -⟩ := hS.gridRd (k := k + 2) HK.out
      have HB := Lib.hid hB
      obtain ⟨hx5, hf5, hz5⟩ := (hS.box (k := 1) rfl).facts
      have hpen := (hS.box (k := 0) rfl).penAt
      clear hS hB
      go_wp2_with fail
      refine wp_region_below (by kernel_rfl) (by kernel_rfl) ?_
      repeat (go_big_quiet_step (first | (go_at_call 19; exact quiet_below (Rows_b (HB.out.bel (below_plus _ _)))) | (go_at_call 20; exact quiet_below (Cols_b (HB.out.bel (below_plus _ _))))))
      refine wpQuiet_nil ?_
      intro w2 hb2
      have S2 := Lib.hid (S1.out.bel hb2)
      clear hx5 hf5 hz5 hpen
      have hpen := (S2.out.box (k := 0) rfl).penAt
      go_wp2_with fail
      refine (pure_call (cellBlank_any _ _) S2.out).mono ?_
      rintro e w3 ⟨rfl, hS⟩
      have S3 := Lib.hid hS
      clear hS
      go_wp2_with fail
      refine (pure_call (cellValid_any _ _ (S3.out.tabs HT.out)) S3.out).mono ?_
      rw [ok_blank, HQ.out]
      rintro e w4 ⟨rfl, hS⟩
      have S4 := Lib.hid hS
      clear hS
      go_wp2_with fail
      go_ret
      exact ⟨by rw [HE.out, HQ.out]; rfl, S4.out.tail.tail⟩
    | false =>
      have HQ := Lib.hid hq
      clear hq
      have d1 : decide (row < 0) = false := by simp; omega
      have d2 : decide ((L.length : Int) ≤ row) = false := by simp; omega
      have d3 : decide (col < 0) = false := by simp; omega
      have d4 : decide ((cols : Int) ≤ col) = false := by simp; omega
      go_enter Tryd.func67, Tryd.ntmps67
      go_wp2_with fail
      refine (Rows_any S.out.alloc2 (k := k + 2) HK.out).mono ?_
      rintro e w1 ⟨rfl, hS⟩
      have S1 := Lib.hid hS
      obtain ⟨A, c, hB, -, -⟩ := hS.gridRd (k := k + 2) HK.out
      have HB := Lib.hid hB
      obtain ⟨hx5, hf5, hz5⟩ := (hS.box (k := 1) rfl).facts
      have hpen := (hS.box (k := 0) rfl).penAt
      clear hS hB
      go_wp2_with fail
      refine wp_region_below (by kernel_rfl) (by kernel_rfl) ?_
      repeat (go_big_quiet_step (first | (go_at_call 19; exact quiet_below (Rows_b (HB.out.bel (below_plus _ _)))) | (go_at_call 20; exact quiet_below (Cols_b (HB.out.bel (below_plus _ _))))))
      refine wpQuiet_nil ?_
      intro w2 hb2
      have S2 := Lib.hid (S1.out.bel hb2)
      clear hx5 hf5 hz5 hpen
      have hpen := (S2.out.box (k := 0) rfl).penAt
      go_wp2_with fail
      refine (pure_call (cellBlank_any _ _) S2.out).mono ?_
      rintro e w3 ⟨rfl, hS⟩
      have S3 := Lib.hid hS
      clear hS
      go_wp2_with fail
      refine (pure_call (cellValid_any _ _ (S3.out.tabs HT.out)) S3.out).mono ?_
      rw [ok_blank, HQ.out]
      rintro e w4 ⟨rfl, hS⟩
      have S4 := Lib.hid hS
      clear hS
      go_wp2_with fail
      go_ret
      exact ⟨by rw [HE.out, HQ.out]; rfl, S4.out.tail.tail⟩
  · have hp' := hp.out
    subst hp'
    cases hq : q.ok with
    | true =>
      have HQ := Lib.hid hq
      clear hq
      have d1 : decide (row < 0) = false := by simp; omega
      have d2 : decide ((L.length : Int) ≤ row) = false := by simp; omega
      have d3 : decide (col < 0) = false := by simp; omega
      have d4 : decide ((cols : Int) ≤ col) = false := by simp; omega
      go_enter Tryd.func67, Tryd.ntmps67
      go_wp2_with fail
      refine (Rows_any S.out.alloc2 (k := k + 2) HK.out).mono ?_
      rintro e w1 ⟨rfl, hS⟩
      have S1 := Lib.hid hS
      obtain ⟨A, c, hB, -, -⟩ := hS.gridRd (k := k + 2) HK.out
      have HB := Lib.hid hB
      obtain ⟨hx5, hf5, hz5⟩ := (hS.box (k := 1) rfl).facts
      have hpen := (hS.box (k := 0) rfl).penAt
      clear hS hB
      go_wp2_with fail
      refine wp_region_below (by kernel_rfl) (by kernel_rfl) ?_
      repeat (go_big_quiet_step (first | (go_at_call 19; exact quiet_below (Rows_b (HB.out.bel (below_plus _ _)))) | (go_at_call 20; exact quiet_below (Cols_b (HB.out.bel (below_plus _ _))))))
      refine wpQuiet_nil ?_
      intro w2 hb2
      have S2 := Lib.hid (S1.out.bel hb2)
      clear hx5 hf5 hz5 hpen
      have hpen := (S2.out.box (k := 0) rfl).penAt
      go_wp2_with fail
      refine (pure_call (cellBlank_any _ _) S2.out).mono ?_
      rintro e w3 ⟨rfl, hS⟩
      have S3 := Lib.hid hS
      clear hS
      go_wp2_with fail
      refine (pure_call (cellValid_any _ _ (S3.out.tabs HT.out)) S3.out).mono ?_
      rw [ok_blank, HQ.out]
      rintro e w4 ⟨rfl, hS⟩
      have S4 := Lib.hid hS
      clear hS
      go_wp2_with fail
      go_ret
      exact ⟨by rw [HE.out, HQ.out]; rfl, S4.out.tail.tail⟩
    | false =>
      have HQ := Lib.hid hq
      clear hq
      have d1 : decide (row < 0) = false := by simp; omega
      have d2 : decide ((L.length : Int) ≤ row) = false := by simp; omega
      have d3 : decide (col < 0) = false := by simp; omega
      have d4 : decide ((cols : Int) ≤ col) = false := by simp; omega
      go_enter Tryd.func67, Tryd.ntmps67
      go_wp2_with fail
      refine (Rows_any S.out.alloc2 (k := k + 2) HK.out).mono ?_
      rintro e w1 ⟨rfl, hS⟩
      have S1 := Lib.hid hS
      obtain ⟨A, c, hB, -, -⟩ := hS.gridRd (k := k + 2) HK.out
      have HB := Lib.hid hB
      obtain ⟨hx5, hf5, hz5⟩ := (hS.box (k := 1) rfl).facts
      have hpen := (hS.box (k := 0) rfl).penAt
      clear hS hB
      go_wp2_with fail
      refine wp_region_below (by kernel_rfl) (by kernel_rfl) ?_
      repeat (go_big_quiet_step (first | (go_at_call 19; exact quiet_below (Rows_b (HB.out.bel (below_plus _ _)))) | (go_at_call 20; exact quiet_below (Cols_b (HB.out.bel (below_plus _ _))))))
      refine wpQuiet_nil ?_
      intro w2 hb2
      have S2 := Lib.hid (S1.out.bel hb2)
      clear hx5 hf5 hz5 hpen
      have hpen := (S2.out.box (k := 0) rfl).penAt
      go_wp2_with fail
      refine (pure_call (cellBlank_any _ _) S2.out).mono ?_
      rintro e w3 ⟨rfl, hS⟩
      have S3 := Lib.hid hS
      clear hS
      go_wp2_with fail
      refine (pure_call (cellValid_any _ _ (S3.out.tabs HT.out)) S3.out).mono ?_
      rw [ok_blank, HQ.out]
      rintro e w4 ⟨rfl, hS⟩
      have S4 := Lib.hid hS
      clear hS
      go_wp2_with fail
      go_ret
      exact ⟨by rw [HE.out, HQ.out]; rfl, S4.out.tail.tail⟩
set_option maxHeartbeats 2000000 in
theorem erasecells_front {i f t : Nat} (q : Pen) (hT : Tabs w0) (hS : Objs w0 w (.grid p 35 cols L :: os)) (hc : 0 < cols) (hcm : cols ≤ 1000) (hR : Rect cols L) (hi : i < L.length) (hq : q.ok = true) (hLm : L.length ≤ 1000000) (hft : f ≤ t) (ht : t ≤ cols) :
    Calls Tryd.prog 68 #[.pointer (some ⟨p, 0, none⟩), .int .i64 i, .int .i64 f, .int .i64 t, .agg (pv q)] w fun e w' => e = .returned (.int .i64 0) ∧ Objs w0 w' (.grid p 35 cols (eraseRow cols i f t q L) :: os) := by
  have S := Lib.hid hS
  have HT := Lib.hid hT
  have HR := Lib.hid hR
  have HQ := Lib.hid hq
  have hlen : (rowMod i (clearC f t q) L).length = L.length := rowMod_length _ _ _
  have HLEN := Lib.hid hlen
  clear hS hT hR hq hlen
  go_enter Tryd.func68, Tryd.ntmps68
  go_wp2_with fail
  refine (ClearG q HT.out S.out.alloc1 (k := 1) rfl hc hcm HR.out hi HQ.out hft ht).mono ?_
  rintro e w1 ⟨rfl, hS⟩
  have S1 := Lib.hid hS
  clear hS
  by_cases h1 : f < t
  · by_cases h2 : t = cols
    · have HE := Lib.hid (eraseRow_soft (i := i) (q := q) (L := L) (⟨h1, h2⟩ : f < t ∧ t = cols))
      have h3 : ((t : Int) == (cols : Int)) = true := by simp; omega
      have hll := Lib.hid (show i < (rowMod i (clearC f t q) L).length by rw [HLEN.out]; exact hi)
      have hlm := Lib.hid (show (rowMod i (clearC f t q) L).length ≤ 1000000 by rw [HLEN.out]; exact hLm)
      clear h2
      go_wp2_with fail
      refine (Cols_any S1.out (k := 1) rfl).mono ?_
      rintro e w2 ⟨rfl, hS⟩
      have S2 := Lib.hid hS
      clear hS
      go_wp2_with fail
      refine (SetSoftG false S2.out (k := 1) rfl hc hll.out hlm.out).mono ?_
      rintro e w3 ⟨rfl, hS⟩
      have S3 := Lib.hid hS
      clear hS
      go_wp2_with fail
      go_ret
      exact ⟨rfl, by rw [← HE.out]; exact S3.out.tail⟩
    · have HE := Lib.hid (eraseRow_keep (cols := cols) (i := i) (f := f) (q := q) (L := L) (t := t) (by omega))
      have h3 : ((t : Int) == (cols : Int)) = false := by rw [beq_eq_false_iff_ne]; omega
      clear h2
      go_wp2_with fail
      refine (Cols_any S1.out (k := 1) rfl).mono ?_
      rintro e w2 ⟨rfl, hS⟩
      have S2 := Lib.hid hS
      clear hS
      go_wp2_with fail
      go_ret
      exact ⟨rfl, by rw [← HE.out]; exact S2.out.tail⟩
  · have HE := Lib.hid (eraseRow_keep (cols := cols) (i := i) (f := f) (q := q) (L := L) (t := t) (by omega))
    go_wp2_with fail
    go_ret
    exact ⟨rfl, by rw [← HE.out]; exact S1.out.tail⟩
set_option maxHeartbeats 2000000 in
theorem erasepart_any {i : Int} {j : Nat} {pend : Bool} (n : Int) (hn : n = 0 ∨ n = 1 ∨ n = 2) (hj : j < cols) (hcm : cols ≤ 1000) (hS : Objs w0 w os) (hk : os[k]? = some (.grid p 35 cols L)) :
    Calls Tryd.prog 69 #[.pointer (some ⟨p, 0, none⟩), .agg #[.int .i64 i, .int .i64 j, .bool pend], .int .i64 n] w fun e w' => e = .returned (.tuple #[.int .i64 (eFrom n j : Nat), .int .i64 (eTo n j cols : Nat), .bool (n != 0), .bool (n != 1)]) ∧ Objs w0 w' os := by
  have S := Lib.hid hS
  have HK := Lib.hid hk
  obtain ⟨A, c, hB, -, -⟩ := (S.out.alloc1 (c1 := #[.int .i64 i, .int .i64 j, .bool pend]) (t1 := 23)).gridRd (k := k + 1) HK.out
  have HB := Lib.hid hB
  clear hS hk hB
  rcases hn with rfl | rfl | rfl
  · go_enter Tryd.func69, Tryd.ntmps69
    go_wp2_with fail
    refine wp_region_below (by kernel_rfl) (by kernel_rfl) ?_
    repeat (go_big_quiet_step ((go_at_call 20; exact quiet_below (Cols_b (HB.out.bel (below_plus _ _))))))
    refine wpQuiet_nil ?_
    intro w2 hb2
    have S2 := Lib.hid (S.out.alloc1.bel hb2)
    go_wp2_with fail
    (try simp only [Exit.inBlock, Exit.then]); refine bodyPost_ret (results_tmp4 rfl _ _ _) rfl ?_
    exact ⟨by simp [eFrom, eTo], S2.out.tail⟩
  · go_enter Tryd.func69, Tryd.ntmps69
    go_wp2_with fail
    refine wp_region_below (by kernel_rfl) (by kernel_rfl) ?_
    repeat (go_big_quiet_step (fail))
    refine wpQuiet_nil ?_
    intro w2 hb2
    have S2 := Lib.hid (S.out.alloc1.bel hb2)
    go_wp2_with fail
    (try simp only [Exit.inBlock, Exit.then]); refine bodyPost_ret (results_tmp4 rfl _ _ _) rfl ?_
    exact ⟨by simp [eFrom, eTo], S2.out.tail⟩
  · go_enter Tryd.func69, Tryd.ntmps69
    go_wp2_with fail
    refine (Cols_any S.out.alloc1 (k := k + 1) HK.out).mono ?_
    rintro e w2 ⟨rfl, hS⟩
    have S2 := Lib.hid hS
    clear hS
    go_wp2_with fail
    (try simp only [Exit.inBlock, Exit.then]); refine bodyPost_ret (results_tmp4 rfl _ _ _) rfl ?_
    exact ⟨by simp [eFrom, eTo], S2.out.tail⟩
theorem check_yes {i j : Nat} {pend : Bool} {q : Pen} {rows cols : Nat} (hin : inG i j pend rows cols = true) (hq : q.ok = true) : checkE i j pend q rows cols = 0 := if_pos ⟨hin, hq⟩
set_option maxHeartbeats 2000000 in
theorem eraseInLine_front {i j : Nat} {pend : Bool} (n : Int) (q : Pen) (hT : Tabs w0) (hS : Objs w0 w (.grid p 35 cols L :: os)) (hcm : cols ≤ 1000) (hR : Rect cols L) (hLm : L.length ≤ 1000000) (hin : inG i j pend L.length cols = true) (hq : q.ok = true) (hn : n = 0 ∨ n = 1 ∨ n = 2) :
    Calls Tryd.prog 33 #[.pointer (some ⟨p, 0, none⟩), .agg #[.int .i64 i, .int .i64 j, .bool pend], .int .i64 n, .agg (pv q)] w fun e w' => e = .returned (.int .i64 0) ∧ Objs w0 w' (.grid p 35 cols (eraseLine cols i j n q L) :: os) := by
  have HIN := Lib.hid (ingrid_iff.1 hin)
  have hi : i < L.length := by have := HIN.out.1; omega
  have hj : j < cols := by have := HIN.out.2.1; omega
  have hc : 0 < cols := by omega
  have hL : 0 < L.length := by omega
  have S := Lib.hid hS
  have HT := Lib.hid hT
  have HR := Lib.hid hR
  have HQ := Lib.hid hq
  have HE := Lib.hid (check_yes hin hq)
  have hn0 : 0 ≤ n ∧ n ≤ 2 := by omega
  have HN := Lib.hid hn
  clear hS hT hR hq hin hn
  go_enter Tryd.func33, Tryd.ntmps33
  go_wp2_with fail
  refine (erasecheck_any q HT.out S.out.alloc2 (k := 2) rfl hc hcm hL).mono ?_
  rw [HE.out]
  rintro e w1 ⟨rfl, hS⟩
  have S1 := Lib.hid hS
  obtain ⟨hx5, hf5, hz5⟩ := (hS.box (k := 1) rfl).facts
  clear hS
  go_wp2_with fail
  refine (erasepart_any n HN.out hj hcm S1.out (k := 2) rfl).mono ?_
  rintro e w2 ⟨rfl, hS⟩
  have S2 := Lib.hid hS
  clear hx5 hf5 hz5
  obtain ⟨hx5, hf5, hz5⟩ := (hS.box (k := 1) rfl).facts
  have hp7 := (hS.box (k := 0) rfl).penAt
  clear hS
  go_wp2_with fail
  refine (front_call S2.out (k := 2) rfl (fun os1 h => erasecells_front q HT.out h hc hcm HR.out hi HQ.out hLm (Nat.le_of_lt (eFrom_lt hj)) (eTo_le hj))).mono ?_
  rintro e w3 ⟨rfl, hS⟩
  have S3 := Lib.hid hS
  clear hS
  go_wp2_with fail
  go_ret
  exact ⟨rfl, S3.out.tail.tail⟩
end
end Go.Proofs.YtjligfbaljnhnaaDoor

/-
  Erasing by the program: Chars, InScreen; what is refused.
-/
set_option linter.unusedSimpArgs false
set_option linter.unusedVariables false
namespace Go.Proofs.YtjligfbaljnhnaaDoor
open Go.RowKit

section
variable {w0 w : World} {os : List Ob} {k p cols : Nat} {L : List Ln}
set_option maxRecDepth 100000 in
set_option maxHeartbeats 4000000 in
theorem eraseChars_front {y j : Nat} {pend : Bool} (n : Int) (q : Pen) (hT : Tabs w0) (hS : Objs w0 w (.grid p 35 cols L :: os)) (hcm : cols ≤ 1000) (hR : Rect cols L) (hLm : L.length ≤ 1000000) (hin : inG y j pend L.length cols = true) (hq : q.ok = true) (hn : 0 ≤ n) :
    Calls Tryd.prog 32 #[.pointer (some ⟨p, 0, none⟩), .agg #[.int .i64 y, .int .i64 j, .bool pend], .int .i64 n, .agg (pv q)] w fun e w' => e = .returned (.int .i64 0) ∧ Objs w0 w' (.grid p 35 cols (eraseCh cols y j n q L) :: os) := by
  have HIN := Lib.hid (ingrid_iff.1 hin)
  have hi : y < L.length := by have := HIN.out.1; omega
  have hj : j < cols := by have := HIN.out.2.1; omega
  have hc : 0 < cols := by omega
  have hL : 0 < L.length := by omega
  obtain ⟨m, hm⟩ : ∃ m : Nat, m = (min n ((cols - j : Nat) : Int)).toNat := ⟨_, rfl⟩
  have hmin : min n ((cols : Int) - (j : Int)) = (m : Int) := by omega
  have hmc : j + m ≤ cols := by omega
  have HM := Lib.hid hm
  have hw1 : IntKind.i64.wrap ((cols : Int) - (j : Int)) = (cols : Int) - (j : Int) := IntWalk.i64_in _ (by omega)
  have hw2 : IntKind.i64.wrap ((j : Int) + (m : Int)) = (j : Int) + (m : Int) := IntWalk.i64_in _ (by omega)
  have HMIN := Lib.hid hmin
  have HW1 := Lib.hid hw1
  have HW2 := Lib.hid hw2
  have S := Lib.hid hS
  have HT := Lib.hid hT
  have HR := Lib.hid hR
  have HQ := Lib.hid hq
  have HE := Lib.hid (check_yes hin hq)
  clear hS hT hR hq hin hm hmin hw1 hw2
  go_enter Tryd.func32, Tryd.ntmps32
  go_wp2_with fail
  refine (erasecheck_any q HT.out S.out.alloc2 (k := 2) rfl hc hcm hL).mono ?_
  rw [HE.out]
  rintro e w1 ⟨rfl, hS⟩
  have S2 := Lib.hid hS
  clear hS S
  generalize w.heap.size + 1 = b7 at S2 ⊢
  generalize w.heap.size = b5 at S2 ⊢
  go_upto_region 6 with (fail)
  refine wp_region_stage (w0 := w0) (os := os) (by kernel_rfl) (by kernel_rfl) (by kernel_rfl) [(2, 16, [], fun vs => .grid p 35 ↑cols (eraseRow cols y j (j + m) q L))] [[], [], [1], [], [1], [], [1], [], [], [2], [], [1], [], [], [], [0], [2], []] [.box b7 29 (pv q), .box b5 23 #[.int .i64 ↑y, .int .i64 ↑j, .bool pend], .grid p 35 ↑cols L] (fun i u => match i with | 0 => u = (.pointer (some ⟨p, 0, none⟩) : Value) | 1 => u = (.pointer (some ⟨b5, 0, none⟩) : Value) | 2 => u = (.int .i64 ↑y : Value) | 3 => u = (.pointer (some ⟨b5, 1, none⟩) : Value) | 4 => u = (.int .i64 ↑j : Value) | 5 => u = (.pointer (some ⟨b5, 1, none⟩) : Value) | 6 => u = (.int .i64 ↑j : Value) | 7 => u = (.int .i64 n : Value) | 8 => u = (.pointer (some ⟨p, 0, none⟩) : Value) | 9 => u = (.int .i64 ↑cols : Value) | 10 => u = (.pointer (some ⟨b5, 1, none⟩) : Value) | 11 => u = (.int .i64 ↑j : Value) | 12 => u = (.int .i64 (↑cols - ↑j) : Value) | 13 => u = (.int .i64 ↑m : Value) | 14 => u = (.int .i64 (↑j + ↑m) : Value) | 15 => u = (.agg (pv q) : Value) | 16 => u = (.int .i64 0 : Value) | 17 => u = (.int .i64 0 : Value) | _ => True) (fun vs => [.box b7 29 (pv q), .box b5 23 #[.int .i64 ↑y, .int .i64 ↑j, .bool pend], .grid p 35 ↑cols (eraseRow cols y j (j + m) q L)]) (by kernel_rfl) (fun vs => by rfl) S2.out ?_ ?_
  · refine SSteps.cons (fun a w' vs σ hS hl hs hk => ?_) ?_
    · have e0 : a.tmps.getD 0 undef = (.pointer (some ⟨p, 0, none⟩) : Value) := (sk_old hk 0 (by kernel_rfl)).trans rfl
      have f0 := gd e0
      exact ro_pure (v := .pointer (some ⟨p, 0, none⟩)) (wanted_none rfl) (by simp [execOp, Act.eval, e0, f0, go_sem]) (sp_same (by kernel_rfl) hl hs hS (show (.pointer (some ⟨p, 0, none⟩) : Value) = _ from rfl)) trivial
    refine SSteps.cons (fun a w' vs σ hS hl hs hk => ?_) ?_
    · have e5 : a.tmps.getD 5 undef = (.pointer (some ⟨b5, 0, none⟩) : Value) := (sk_old hk 5 (by kernel_rfl)).trans rfl
      have f5 := gd e5
      exact ro_pure (v := .pointer (some ⟨b5, 0, none⟩)) (wanted_none rfl) (by simp [execOp, Act.eval, e5, f5, go_sem]) (sp_same (by kernel_rfl) hl hs hS (show (.pointer (some ⟨b5, 0, none⟩) : Value) = _ from rfl)) trivial
    refine SSteps.cons (fun a w' vs σ hS hl hs hk => ?_) ?_
    · have e20 : a.tmps.getD 20 undef = (.pointer (some ⟨b5, 0, none⟩) : Value) := (sk_val hk 1 (by kernel_rfl) rfl rfl).trans ((hk.1 1 (by kernel_rfl)).1)
      have f20 := gd e20
      have hx := (hS.box (sg (hs 1 (by decide)))).cell
      exact ro_pure (v := .int .i64 ↑y) (wanted_none rfl) (by simp [execOp, Act.eval, e20, f20, go_sem, hx]) (sp_same (by kernel_rfl) hl hs hS (show (.int .i64 ↑y : Value) = _ from rfl)) trivial
    refine SSteps.cons (fun a w' vs σ hS hl hs hk => ?_) ?_
    · have e5 : a.tmps.getD 5 undef = (.pointer (some ⟨b5, 0, none⟩) : Value) := (sk_old hk 5 (by kernel_rfl)).trans rfl
      have f5 := gd e5
      exact ro_pure (v := .pointer (some ⟨b5, 1, none⟩)) (wanted_none rfl) (by simp [execOp, Act.eval, e5, f5, go_sem]) (sp_same (by kernel_rfl) hl hs hS (show (.pointer (some ⟨b5, 1, none⟩) : Value) = _ from rfl)) trivial
    refine SSteps.cons (fun a w' vs σ hS hl hs hk => ?_) ?_
    · have e22 : a.tmps.getD 22 undef = (.pointer (some ⟨b5, 1, none⟩) : Value) := (sk_val hk 3 (by kernel_rfl) rfl rfl).trans ((hk.1 3 (by kernel_rfl)).1)
      have f22 := gd e22
      have hx := (hS.box (sg (hs 1 (by decide)))).cell
      exact ro_pure (v := .int .i64 ↑j) (wanted_none rfl) (by simp [execOp, Act.eval, e22, f22, go_sem, hx]) (sp_same (by kernel_rfl) hl hs hS (show (.int .i64 ↑j : Value) = _ from rfl)) trivial
    refine SSteps.cons (fun a w' vs σ hS hl hs hk => ?_) ?_
    · have e5 : a.tmps.getD 5 undef = (.pointer (some ⟨b5, 0, none⟩) : Value) := (sk_old hk 5 (by kernel_rfl)).trans rfl
      have f5 := gd e5
      exact ro_pure (v := .pointer (some ⟨b5, 1, none⟩)) (wanted_none rfl) (by simp [execOp, Act.eval, e5, f5, go_sem]) (sp_same (by kernel_rfl) hl hs hS (show (.pointer (some ⟨b5, 1, none⟩) : Value) = _ from rfl)) trivial
    refine SSteps.cons (fun a w' vs σ hS hl hs hk => ?_) ?_
    · have e24 : a.tmps.getD 24 undef = (.pointer (some ⟨b5, 1, none⟩) : Value) := (sk_val hk 5 (by kernel_rfl) rfl rfl).trans ((hk.1 5 (by kernel_rfl)).1)
      have f24 := gd e24
      have hx := (hS.box (sg (hs 1 (by decide)))).cell
      exact ro_pure (v := .int .i64 ↑j) (wanted_none rfl) (by simp [execOp, Act.eval, e24, f24, go_sem, hx]) (sp_same (by kernel_rfl) hl hs hS (show (.int .i64 ↑j : Value) = _ from rfl)) trivial
    refine SSteps.cons (fun a w' vs σ hS hl hs hk => ?_) ?_
    · have e2 : a.tmps.getD 2 undef = (.int .i64 n : Value) := (sk_old hk 2 (by kernel_rfl)).trans rfl
      have f2 := gd e2
      exact ro_pure (v := .int .i64 n) (wanted_none rfl) (by simp [execOp, Act.eval, e2, f2, go_sem]) (sp_same (by kernel_rfl) hl hs hS (show (.int .i64 n : Value) = _ from rfl)) trivial
    refine SSteps.cons (fun a w' vs σ hS hl hs hk => ?_) ?_
    · have e0 : a.tmps.getD 0 undef = (.pointer (some ⟨p, 0, none⟩) : Value) := (sk_old hk 0 (by kernel_rfl)).trans rfl
      have f0 := gd e0
      exact ro_pure (v := .pointer (some ⟨p, 0, none⟩)) (wanted_none rfl) (by simp [execOp, Act.eval, e0, f0, go_sem]) (sp_same (by kernel_rfl) hl hs hS (show (.pointer (some ⟨p, 0, none⟩) : Value) = _ from rfl)) trivial
    refine SSteps.cons (fun a w' vs σ hS hl hs hk => ?_) ?_
    · have e27 : a.tmps.getD 27 undef = (.pointer (some ⟨p, 0, none⟩) : Value) := (sk_val hk 8 (by kernel_rfl) rfl rfl).trans ((hk.1 8 (by kernel_rfl)).1)
      have f27 := gd e27
      exact ro_call (f := 20) (wanted_none rfl) rfl (by simp only [List.map_toArray, List.map_cons, List.map_nil, Act.eval, e27] <;> rfl) (fun _ _ => by kernel_rfl) ((Cols_any hS (sg (hs 2 (by decide)))).mono fun e w2 ⟨h1, h2⟩ => ⟨_, h1, sp_same (by kernel_rfl) hl hs h2 rfl, trivial⟩)
    refine SSteps.cons (fun a w' vs σ hS hl hs hk => ?_) ?_
    · have e5 : a.tmps.getD 5 undef = (.pointer (some ⟨b5, 0, none⟩) : Value) := (sk_old hk 5 (by kernel_rfl)).trans rfl
      have f5 := gd e5
      exact ro_pure (v := .pointer (some ⟨b5, 1, none⟩)) (wanted_none rfl) (by simp [execOp, Act.eval, e5, f5, go_sem]) (sp_same (by kernel_rfl) hl hs hS (show (.pointer (some ⟨b5, 1, none⟩) : Value) = _ from rfl)) trivial
    refine SSteps.cons (fun a w' vs σ hS hl hs hk => ?_) ?_
    · have e29 : a.tmps.getD 29 undef = (.pointer (some ⟨b5, 1, none⟩) : Value) := (sk_val hk 10 (by kernel_rfl) rfl rfl).trans ((hk.1 10 (by kernel_rfl)).1)
      have f29 := gd e29
      have hx := (hS.box (sg (hs 1 (by decide)))).cell
      exact ro_pure (v := .int .i64 ↑j) (wanted_none rfl) (by simp [execOp, Act.eval, e29, f29, go_sem, hx]) (sp_same (by kernel_rfl) hl hs hS (show (.int .i64 ↑j : Value) = _ from rfl)) trivial
    refine SSteps.cons (fun a w' vs σ hS hl hs hk => ?_) ?_
    · have e28 : a.tmps.getD 28 undef = (.int .i64 ↑cols : Value) := (sk_val hk 9 (by kernel_rfl) rfl rfl).trans ((hk.1 9 (by kernel_rfl)).1)
      have f28 := gd e28
      have e30 : a.tmps.getD 30 undef = (.int .i64 ↑j : Value) := (sk_val hk 11 (by kernel_rfl) rfl rfl).trans ((hk.1 11 (by kernel_rfl)).1)
      have f30 := gd e30
      exact ro_pure (v := .int .i64 (↑cols - ↑j)) (wanted_none rfl) (by simp [execOp, Act.eval, e28, f28, e30, f30, go_sem, HW1.out]) (sp_same (by kernel_rfl) hl hs hS (show (.int .i64 (↑cols - ↑j) : Value) = _ from rfl)) trivial
    refine SSteps.cons (fun a w' vs σ hS hl hs hk => ?_) ?_
    · have e26 : a.tmps.getD 26 undef = (.int .i64 n : Value) := (sk_val hk 7 (by kernel_rfl) rfl rfl).trans ((hk.1 7 (by kernel_rfl)).1)
      have f26 := gd e26
      have e31 : a.tmps.getD 31 undef = (.int .i64 (↑cols - ↑j) : Value) := (sk_val hk 12 (by kernel_rfl) rfl rfl).trans ((hk.1 12 (by kernel_rfl)).1)
      have f31 := gd e31
      exact ro_pure (v := .int .i64 ↑m) (wanted_none rfl) (by simp [execOp, Act.eval, e26, f26, e31, f31, go_sem, HMIN.out, resolve, invoke, builtin, Result.andThen]) (sp_same (by kernel_rfl) hl hs hS (show (.int .i64 ↑m : Value) = _ from rfl)) trivial
    refine SSteps.cons (fun a w' vs σ hS hl hs hk => ?_) ?_
    · have e25 : a.tmps.getD 25 undef = (.int .i64 ↑j : Value) := (sk_val hk 6 (by kernel_rfl) rfl rfl).trans ((hk.1 6 (by kernel_rfl)).1)
      have f25 := gd e25
      have e32 : a.tmps.getD 32 undef = (.int .i64 ↑m : Value) := (sk_val hk 13 (by kernel_rfl) rfl rfl).trans ((hk.1 13 (by kernel_rfl)).1)
      have f32 := gd e32
      exact ro_pure (v := .int .i64 (↑j + ↑m)) (wanted_none rfl) (by simp [execOp, Act.eval, e25, f25, e32, f32, go_sem, HW2.out]) (sp_same (by kernel_rfl) hl hs hS (show (.int .i64 (↑j + ↑m) : Value) = _ from rfl)) trivial
    refine SSteps.cons (fun a w' vs σ hS hl hs hk => ?_) ?_
    · have e7 : a.tmps.getD 7 undef = (.pointer (some ⟨b7, 0, none⟩) : Value) := (sk_old hk 7 (by kernel_rfl)).trans rfl
      have f7 := gd e7
      have hx := (hS.box (sg (hs 0 (by decide)))).penAt
      exact ro_pure (v := .agg (pv q)) (wanted_none rfl) (by simp [execOp, Act.eval, e7, f7, go_sem, hx]) (sp_same (by kernel_rfl) hl hs hS (show (.agg (pv q) : Value) = _ from rfl)) trivial
    refine SSteps.cons (fun a w' vs σ hS hl hs hk => ?_) ?_
    · have e19 : a.tmps.getD 19 undef = (.pointer (some ⟨p, 0, none⟩) : Value) := (sk_val hk 0 (by kernel_rfl) rfl rfl).trans ((hk.1 0 (by kernel_rfl)).1)
      have f19 := gd e19
      have e21 : a.tmps.getD 21 undef = (.int .i64 ↑y : Value) := (sk_val hk 2 (by kernel_rfl) rfl rfl).trans ((hk.1 2 (by kernel_rfl)).1)
      have f21 := gd e21
      have e23 : a.tmps.getD 23 undef = (.int .i64 ↑j : Value) := (sk_val hk 4 (by kernel_rfl) rfl rfl).trans ((hk.1 4 (by kernel_rfl)).1)
      have f23 := gd e23
      have e33 : a.tmps.getD 33 undef = (.int .i64 (↑j + ↑m) : Value) := (sk_val hk 14 (by kernel_rfl) rfl rfl).trans ((hk.1 14 (by kernel_rfl)).1)
      have f33 := gd e33
      have e34 : a.tmps.getD 34 undef = (.agg (pv q) : Value) := (sk_val hk 15 (by kernel_rfl) rfl rfl).trans ((hk.1 15 (by kernel_rfl)).1)
      have f34 := gd e34
      have h2 : σ[2]? = some (.grid p 35 ↑cols L) := hs 2 (by decide)
      exact ro_call (f := 68) (wanted_none rfl) rfl (by simp only [List.map_toArray, List.map_cons, List.map_nil, Act.eval, e19, e21, e23, e33, e34] <;> rfl) (fun _ _ => by kernel_rfl) ((front_call hS (sg h2) (fun os1 h => erasecells_front (i := y) (f := j) (t := j + m) q HT.out h hc hcm HR.out hi HQ.out hLm (by omega) (by omega))).mono fun e w2 ⟨h1, h2⟩ => ⟨_, h1, sp_set 2 _ (by kernel_rfl) (by simp) (by decide) hl hs (by rfl) h2 rfl, trivial⟩)
    refine SSteps.cons (fun a w' vs σ hS hl hs hk => ?_) ?_
    · have e35 : a.tmps.getD 35 undef = (.int .i64 0 : Value) := (sk_val hk 16 (by kernel_rfl) rfl rfl).trans ((hk.1 16 (by kernel_rfl)).1)
      have f35 := gd e35
      exact ro_pure (v := .int .i64 0) (wanted_none rfl) (by simp [execOp, Act.eval, e35, f35, go_sem]) (sp_same (by kernel_rfl) hl hs hS (show (.int .i64 0 : Value) = _ from rfl)) trivial
    exact SSteps.nil
  · intro vs w' hS hv
    have q0 := (show vs 0 = (.pointer (some ⟨p, 0, none⟩) : Value) from hv 0 (by decide))
    have q1 := (show vs 1 = (.pointer (some ⟨b5, 0, none⟩) : Value) from hv 1 (by decide))
    have q2 := (show vs 2 = (.int .i64 ↑y : Value) from hv 2 (by decide))
    have q3 := (show vs 3 = (.pointer (some ⟨b5, 1, none⟩) : Value) from hv 3 (by decide))
    have q4 := (show vs 4 = (.int .i64 ↑j : Value) from hv 4 (by decide))
    have q5 := (show vs 5 = (.pointer (some ⟨b5, 1, none⟩) : Value) from hv 5 (by decide))
    have q6 := (show vs 6 = (.int .i64 ↑j : Value) from hv 6 (by decide))
    have q7 := (show vs 7 = (.int .i64 n : Value) from hv 7 (by decide))
    have q8 := (show vs 8 = (.pointer (some ⟨p, 0, none⟩) : Value) from hv 8 (by decide))
    have q9 := (show vs 9 = (.int .i64 ↑cols : Value) from hv 9 (by decide))
    have q10 := (show vs 10 = (.pointer (some ⟨b5, 1, none⟩) : Value) from hv 10 (by decide))
    have q11 := (show vs 11 = (.int .i64 ↑j : Value) from hv 11 (by decide))
    have q12 := (show vs 12 = (.int .i64 (↑cols - ↑j) : Value) from hv 12 (by decide))
    have q13 := (show vs 13 = (.int .i64 ↑m : Value) from hv 13 (by decide))
    have q14 := (show vs 14 = (.int .i64 (↑j + ↑m) : Value) from hv 14 (by decide))
    have q15 := (show vs 15 = (.agg (pv q) : Value) from hv 15 (by decide))
    have q16 := (show vs 16 = (.int .i64 0 : Value) from hv 16 (by decide))
    have q17 := (show vs 17 = (.int .i64 0 : Value) from hv 17 (by decide))
    have S2 := Lib.hid hS
    simp only [putL, Act.put, Nat.zero_add, Nat.reduceAdd, List.setIfInBounds_toArray, List.set_cons_succ, List.set_cons_zero, q0, q1, q2, q3, q4, q5, q6, q7, q8, q9, q10, q11, q12, q13, q14, q15, q16, q17]
    clear hS hv q0 q1 q2 q3 q4 q5 q6 q7 q8 q9 q10 q11 q12 q13 q14 q15 q16 q17
    go_wp2_with fail
    go_ret
    exact ⟨rfl, by unfold eraseCh; rw [← HM.out]; exact S2.out.tail.tail⟩
set_option maxRecDepth 100000 in
set_option maxHeartbeats 4000000 in
theorem eraseInScreen_front {y j : Nat} {pend : Bool} (n : Int) (q : Pen) (hT : Tabs w0) (hS : Objs w0 w (.grid p 35 cols L :: os)) (hcm : cols ≤ 1000) (hR : Rect cols L) (hLm : L.length ≤ 1000000) (hin : inG y j pend L.length cols = true) (hq : q.ok = true) (hn : n = 0 ∨ n = 1 ∨ n = 2) :
    Calls Tryd.prog 51 #[.pointer (some ⟨p, 0, none⟩), .agg #[.int .i64 y, .int .i64 j, .bool pend], .int .i64 n, .agg (pv q)] w fun e w' => e = .returned (.int .i64 0) ∧ Objs w0 w' (.grid p 35 cols (eraseScr cols y j n q L) :: os) := by
  have HIN := Lib.hid (ingrid_iff.1 hin)
  have hi : y < L.length := by have := HIN.out.1; omega
  have hj : j < cols := by have := HIN.out.2.1; omega
  have hc : 0 < cols := by omega
  have hL : 0 < L.length := by omega
  have S := Lib.hid hS
  have HT := Lib.hid hT
  have HR := Lib.hid hR
  have HQ := Lib.hid hq
  have HI := Lib.hid hin
  have HN3 := Lib.hid hn
  clear hS hT hR hq hin hn
  go_enter Tryd.func51, Tryd.ntmps51
  go_wp2_with fail
  refine (front_call S.out.alloc2 (k := 2) rfl (fun os1 h => eraseInLine_front n q HT.out h hcm HR.out hLm HI.out HQ.out HN3.out)).mono ?_
  rintro e w1 ⟨rfl, hS⟩
  have S1 := Lib.hid hS
  obtain ⟨hx5, hf5, hz5⟩ := (hS.box (k := 1) rfl).facts
  clear hS S
  generalize w.heap.size + 1 = b7 at S1 ⊢
  generalize w.heap.size = b5 at S1 hx5 hf5 hz5 ⊢
  go_wp2_with fail
  refine (erasepart_any n HN3.out hj hcm S1.out (k := 2) rfl).mono ?_
  rintro e w2 ⟨rfl, hS⟩
  have S2 := Lib.hid hS
  clear hS hx5 hf5 hz5
  go_wp2_with fail
  refine (Rows_any S2.out (k := 2) rfl).mono ?_
  rintro e w3 ⟨rfl, hS⟩
  have HLL := Lib.hid (eraseLine_length cols y j n q L)
  rw [HLL.out]
  have hrd : Rect cols (eraseLine cols y j n q L) := HR.out.eraseLine _ _ _ hj
  have HRD := Lib.hid hrd
  clear hrd
  have S2b := Lib.hid hS
  clear hS S2
  go_wp2_with fail
  go_loopw [14, 15, 35] (fun _ _ x wr => ∃ m : Nat, m ≤ L.length ∧ x = .int .i64 m ∧ Objs w0 wr (.box b7 29 (pv q) :: .box b5 23 #[.int .i64 y, .int .i64 j, .bool pend] :: .grid p 35 cols (eraseOthers cols y n q m (eraseLine cols y j n q L)) :: os)) (fun _ _ x _ => L.length - (intOf x).toNat)
  case atStart => exact ⟨0, Nat.zero_le _, rfl, S2b.out⟩
  case round =>
    obtain ⟨m, hm, rfl, hS⟩ := hrel
    by_cases hlt : m < L.length
    case neg =>
      have hml : m = L.length := by omega
      have HS := Lib.hid (show Objs w0 wr (.box b7 29 (pv q) :: .box b5 23 #[.int .i64 y, .int .i64 j, .bool pend] :: .grid p 35 cols (eraseScr cols y j n q L) :: os) by unfold eraseScr; rw [← hml]; exact hS)
      clear hS hml
      go_wp2_with fail
      go_ret
      exact ⟨rfl, HS.out.tail.tail⟩
    obtain ⟨hx5, hf5, hz5⟩ := (hS.box (k := 1) rfl).facts
    obtain ⟨LN, hLN⟩ : ∃ LN, LN = eraseOthers cols y n q m (eraseLine cols y j n q L) := ⟨_, rfl⟩
    rw [← hLN] at hS
    have hnN : m < LN.length := by rw [hLN, eraseOthers_length, HLL.out]; exact hlt
    have hLmN : LN.length ≤ 1000000 := by rw [hLN, eraseOthers_length, HLL.out]; exact hLm
    have HRN := Lib.hid (show Rect cols LN by rw [hLN]; exact HRD.out.eraseOthers _ _ _ _)
    have S3 := Lib.hid hS
    by_cases ho : otherRow y n m
    case neg =>
      have HN := Lib.hid (show eraseOthers cols y n q (m + 1) (eraseLine cols y j n q L) = LN by rw [hLN]; unfold eraseOthers; rw [if_neg ho]; cases m <;> rfl)
      clear hS hLN
      by_cases h1 : m < y
      · have hn0 : n = 0 := by unfold otherRow at ho; omega
        have hb0 := bne_no hn0
        have hnl : ¬ ((y : Int) < m) := by omega
        clear ho hn0
        go_wp2_with fail
        go_roundw
        case rel => exact ⟨m + 1, by omega, by go_num, by rw [HN.out]; exact S3.out⟩
        case measure => simp [intOf]; omega
      · by_cases h2 : y < m
        · have hn1 : n = 1 := by unfold otherRow at ho; omega
          have hb1 := bne_no hn1
          clear ho hn1
          go_wp2_with fail
          go_roundw
          case rel => exact ⟨m + 1, by omega, by go_num, by rw [HN.out]; exact S3.out⟩
          case measure => simp [intOf]; omega
        · clear ho
          go_wp2_with fail
          go_roundw
          case rel => exact ⟨m + 1, by omega, by go_num, by rw [HN.out]; exact S3.out⟩
          case measure => simp [intOf]; omega
    have HN := Lib.hid (show eraseRow cols m 0 cols q LN = eraseOthers cols y n q (m + 1) (eraseLine cols y j n q L) by rw [hLN]; conv => { rhs; unfold eraseOthers }; rw [if_pos ho])
    clear hS hLN
    rcases ho with ⟨h1, h2⟩ | ⟨h1, h2⟩
    · have hb := bne_yes h2
      have hnlt : ¬ (y : Int) < m := by omega
      clear h2
      go_upto_region 9 with (fail)
      refine wp_region_stage (w0 := w0) (os := os) (by kernel_rfl) (by kernel_rfl) (by kernel_rfl) [(2, 5, [], fun vs => .grid p 35 ↑cols (eraseRow cols m 0 cols q LN))] [[], [], [], [2], [0], [2], []] [.box b7 29 (pv q), .box b5 23 #[.int .i64 ↑y, .int .i64 ↑j, .bool pend], .grid p 35 ↑cols LN] (fun i u => match i with | 0 => u = (.pointer (some ⟨p, 0, none⟩) : Value) | 1 => u = (.int .i64 ↑m : Value) | 2 => u = (.pointer (some ⟨p, 0, none⟩) : Value) | 3 => u = (.int .i64 ↑cols : Value) | 4 => u = (.agg (pv q) : Value) | 5 => u = (.int .i64 0 : Value) | 6 => u = (.int .i64 0 : Value) | _ => True) (fun vs => [.box b7 29 (pv q), .box b5 23 #[.int .i64 ↑y, .int .i64 ↑j, .bool pend], .grid p 35 ↑cols (eraseRow cols m 0 cols q LN)]) (by kernel_rfl) (fun vs => by rfl) S3.out ?_ ?_
      · refine SSteps.cons (fun a w' vs σ hS hl hs hk => ?_) ?_
        · have e0 : a.tmps.getD 0 undef = (.pointer (some ⟨p, 0, none⟩) : Value) := (sk_old hk 0 (by kernel_rfl)).trans rfl
          have f0 := gd e0
          exact ro_pure (v := .pointer (some ⟨p, 0, none⟩)) (wanted_none rfl) (by simp [execOp, Act.eval, e0, f0, go_sem]) (sp_same (by kernel_rfl) hl hs hS (show (.pointer (some ⟨p, 0, none⟩) : Value) = _ from rfl)) trivial
        refine SSteps.cons (fun a w' vs σ hS hl hs hk => ?_) ?_
        · have e14 : a.tmps.getD 14 undef = (.int .i64 ↑m : Value) := (sk_old hk 14 (by kernel_rfl)).trans rfl
          have f14 := gd e14
          exact ro_pure (v := .int .i64 ↑m) (wanted_none rfl) (by simp [execOp, Act.eval, e14, f14, go_sem]) (sp_same (by kernel_rfl) hl hs hS (show (.int .i64 ↑m : Value) = _ from rfl)) trivial
        refine SSteps.cons (fun a w' vs σ hS hl hs hk => ?_) ?_
        · have e0 : a.tmps.getD 0 undef = (.pointer (some ⟨p, 0, none⟩) : Value) := (sk_old hk 0 (by kernel_rfl)).trans rfl
          have f0 := gd e0
          exact ro_pure (v := .pointer (some ⟨p, 0, none⟩)) (wanted_none rfl) (by simp [execOp, Act.eval, e0, f0, go_sem]) (sp_same (by kernel_rfl) hl hs hS (show (.pointer (some ⟨p, 0, none⟩) : Value) = _ from rfl)) trivial
        refine SSteps.cons (fun a w' vs σ hS hl hs hk => ?_) ?_
        · have e56 : a.tmps.getD 56 undef = (.pointer (some ⟨p, 0, none⟩) : Value) := (sk_val hk 2 (by kernel_rfl) rfl rfl).trans ((hk.1 2 (by kernel_rfl)).1)
          have f56 := gd e56
          exact ro_call (f := 20) (wanted_none rfl) rfl (by simp only [List.map_toArray, List.map_cons, List.map_nil, Act.eval, e56] <;> rfl) (fun _ _ => by kernel_rfl) ((Cols_any hS (sg (hs 2 (by decide)))).mono fun e w2 ⟨h1, h2⟩ => ⟨_, h1, sp_same (by kernel_rfl) hl hs h2 rfl, trivial⟩)
        refine SSteps.cons (fun a w' vs σ hS hl hs hk => ?_) ?_
        · have e7 : a.tmps.getD 7 undef = (.pointer (some ⟨b7, 0, none⟩) : Value) := (sk_old hk 7 (by kernel_rfl)).trans rfl
          have f7 := gd e7
          have hx := (hS.box (sg (hs 0 (by decide)))).penAt
          exact ro_pure (v := .agg (pv q)) (wanted_none rfl) (by simp [execOp, Act.eval, e7, f7, go_sem, hx]) (sp_same (by kernel_rfl) hl hs hS (show (.agg (pv q) : Value) = _ from rfl)) trivial
        refine SSteps.cons (fun a w' vs σ hS hl hs hk => ?_) ?_
        · have e54 : a.tmps.getD 54 undef = (.pointer (some ⟨p, 0, none⟩) : Value) := (sk_val hk 0 (by kernel_rfl) rfl rfl).trans ((hk.1 0 (by kernel_rfl)).1)
          have f54 := gd e54
          have e55 : a.tmps.getD 55 undef = (.int .i64 ↑m : Value) := (sk_val hk 1 (by kernel_rfl) rfl rfl).trans ((hk.1 1 (by kernel_rfl)).1)
          have f55 := gd e55
          have e57 : a.tmps.getD 57 undef = (.int .i64 ↑cols : Value) := (sk_val hk 3 (by kernel_rfl) rfl rfl).trans ((hk.1 3 (by kernel_rfl)).1)
          have f57 := gd e57
          have e58 : a.tmps.getD 58 undef = (.agg (pv q) : Value) := (sk_val hk 4 (by kernel_rfl) rfl rfl).trans ((hk.1 4 (by kernel_rfl)).1)
          have f58 := gd e58
          have h2 : σ[2]? = some (.grid p 35 ↑cols LN) := hs 2 (by decide)
          exact ro_call (f := 68) (wanted_none rfl) rfl (by simp only [List.map_toArray, List.map_cons, List.map_nil, Act.eval, e54, e55, e57, e58] <;> rfl) (fun _ _ => by kernel_rfl) ((front_call hS (sg h2) (fun os1 h => erasecells_front (i := m) (f := 0) (t := cols) q HT.out h hc hcm HRN.out hnN HQ.out hLmN (by omega) (by omega))).mono fun e w2 ⟨h1, h2⟩ => ⟨_, h1, sp_set 2 _ (by kernel_rfl) (by simp) (by decide) hl hs (by rfl) h2 rfl, trivial⟩)
        refine SSteps.cons (fun a w' vs σ hS hl hs hk => ?_) ?_
        · have e59 : a.tmps.getD 59 undef = (.int .i64 0 : Value) := (sk_val hk 5 (by kernel_rfl) rfl rfl).trans ((hk.1 5 (by kernel_rfl)).1)
          have f59 := gd e59
          exact ro_pure (v := .int .i64 0) (wanted_none rfl) (by simp [execOp, Act.eval, e59, f59, go_sem]) (sp_same (by kernel_rfl) hl hs hS (show (.int .i64 0 : Value) = _ from rfl)) trivial
        exact SSteps.nil
      · intro vs w' hS hv
        have q0 := (show vs 0 = (.pointer (some ⟨p, 0, none⟩) : Value) from hv 0 (by decide))
        have q1 := (show vs 1 = (.int .i64 ↑m : Value) from hv 1 (by decide))
        have q2 := (show vs 2 = (.pointer (some ⟨p, 0, none⟩) : Value) from hv 2 (by decide))
        have q3 := (show vs 3 = (.int .i64 ↑cols : Value) from hv 3 (by decide))
        have q4 := (show vs 4 = (.agg (pv q) : Value) from hv 4 (by decide))
        have q5 := (show vs 5 = (.int .i64 0 : Value) from hv 5 (by decide))
        have q6 := (show vs 6 = (.int .i64 0 : Value) from hv 6 (by decide))
        have S2 := Lib.hid hS
        simp only [putL, Act.put, Nat.zero_add, Nat.reduceAdd, List.setIfInBounds_toArray, List.set_cons_succ, List.set_cons_zero, q0, q1, q2, q3, q4, q5, q6]
        clear hS hv q0 q1 q2 q3 q4 q5 q6
        go_wp2_with fail
        go_roundw
        case rel => exact ⟨m + 1, by omega, by go_num, by rw [← HN.out]; exact S2.out⟩
        case measure => simp [intOf]; omega
    · have hb := bne_yes h2
      have hnlt : ¬ (m : Int) < y := by omega
      clear h2
      go_upto_region 9 with (fail)
      refine wp_region_stage (w0 := w0) (os := os) (by kernel_rfl) (by kernel_rfl) (by kernel_rfl) [(2, 5, [], fun vs => .grid p 35 ↑cols (eraseRow cols m 0 cols q LN))] [[], [], [], [2], [0], [2], []] [.box b7 29 (pv q), .box b5 23 #[.int .i64 ↑y, .int .i64 ↑j, .bool pend], .grid p 35 ↑cols LN] (fun i u => match i with | 0 => u = (.pointer (some ⟨p, 0, none⟩) : Value) | 1 => u = (.int .i64 ↑m : Value) | 2 => u = (.pointer (some ⟨p, 0, none⟩) : Value) | 3 => u = (.int .i64 ↑cols : Value) | 4 => u = (.agg (pv q) : Value) | 5 => u = (.int .i64 0 : Value) | 6 => u = (.int .i64 0 : Value) | _ => True) (fun vs => [.box b7 29 (pv q), .box b5 23 #[.int .i64 ↑y, .int .i64 ↑j, .bool pend], .grid p 35 ↑cols (eraseRow cols m 0 cols q LN)]) (by kernel_rfl) (fun vs => by rfl) S3.out ?_ ?_
      · refine SSteps.cons (fun a w' vs σ hS hl hs hk => ?_) ?_
        · have e0 : a.tmps.getD 0 undef = (.pointer (some ⟨p, 0, none⟩) : Value) := (sk_old hk 0 (by kernel_rfl)).trans rfl
          have f0 := gd e0
          exact ro_pure (v := .pointer (some ⟨p, 0, none⟩)) (wanted_none rfl) (by simp [execOp, Act.eval, e0, f0, go_sem]) (sp_same (by kernel_rfl) hl hs hS (show (.pointer (some ⟨p, 0, none⟩) : Value) = _ from rfl)) trivial
        refine SSteps.cons (fun a w' vs σ hS hl hs hk => ?_) ?_
        · have e14 : a.tmps.getD 14 undef = (.int .i64 ↑m : Value) := (sk_old hk 14 (by kernel_rfl)).trans rfl
          have f14 := gd e14
          exact ro_pure (v := .int .i64 ↑m) (wanted_none rfl) (by simp [execOp, Act.eval, e14, f14, go_sem]) (sp_same (by kernel_rfl) hl hs hS (show (.int .i64 ↑m : Value) = _ from rfl)) trivial
        refine SSteps.cons (fun a w' vs σ hS hl hs hk => ?_) ?_
        · have e0 : a.tmps.getD 0 undef = (.pointer (some ⟨p, 0, none⟩) : Value) := (sk_old hk 0 (by kernel_rfl)).trans rfl
          have f0 := gd e0
          exact ro_pure (v := .pointer (some ⟨p, 0, none⟩)) (wanted_none rfl) (by simp [execOp, Act.eval, e0, f0, go_sem]) (sp_same (by kernel_rfl) hl hs hS (show (.pointer (some ⟨p, 0, none⟩) : Value) = _ from rfl)) trivial
        refine SSteps.cons (fun a w' vs σ hS hl hs hk => ?_) ?_
        · have e56 : a.tmps.getD 56 undef = (.pointer (some ⟨p, 0, none⟩) : Value) := (sk_val hk 2 (by kernel_rfl) rfl rfl).trans ((hk.1 2 (by kernel_rfl)).1)
          have f56 := gd e56
          exact ro_call (f := 20) (wanted_none rfl) rfl (by simp only [List.map_toArray, List.map_cons, List.map_nil, Act.eval, e56] <;> rfl) (fun _ _ => by kernel_rfl) ((Cols_any hS (sg (hs 2 (by decide)))).mono fun e w2 ⟨h1, h2⟩ => ⟨_, h1, sp_same (by kernel_rfl) hl hs h2 rfl, trivial⟩)
        refine SSteps.cons (fun a w' vs σ hS hl hs hk => ?_) ?_
        · have e7 : a.tmps.getD 7 undef = (.pointer (some ⟨b7, 0, none⟩) : Value) := (sk_old hk 7 (by kernel_rfl)).trans rfl
          have f7 := gd e7
          have hx := (hS.box (sg (hs 0 (by decide)))).penAt
          exact ro_pure (v := .agg (pv q)) (wanted_none rfl) (by simp [execOp, Act.eval, e7, f7, go_sem, hx]) (sp_same (by kernel_rfl) hl hs hS (show (.agg (pv q) : Value) = _ from rfl)) trivial
        refine SSteps.cons (fun a w' vs σ hS hl hs hk => ?_) ?_
        · have e54 : a.tmps.getD 54 undef = (.pointer (some ⟨p, 0, none⟩) : Value) := (sk_val hk 0 (by kernel_rfl) rfl rfl).trans ((hk.1 0 (by kernel_rfl)).1)
          have f54 := gd e54
          have e55 : a.tmps.getD 55 undef = (.int .i64 ↑m : Value) := (sk_val hk 1 (by kernel_rfl) rfl rfl).trans ((hk.1 1 (by kernel_rfl)).1)
          have f55 := gd e55
          have e57 : a.tmps.getD 57 undef = (.int .i64 ↑cols : Value) := (sk_val hk 3 (by kernel_rfl) rfl rfl).trans ((hk.1 3 (by kernel_rfl)).1)
          have f57 := gd e57
          have e58 : a.tmps.getD 58 undef = (.agg (pv q) : Value) := (sk_val hk 4 (by kernel_rfl) rfl rfl).trans ((hk.1 4 (by kernel_rfl)).1)
          have f58 := gd e58
          have h2 : σ[2]? = some (.grid p 35 ↑cols LN) := hs 2 (by decide)
          exact ro_call (f := 68) (wanted_none rfl) rfl (by simp only [List.map_toArray, List.map_cons, List.map_nil, Act.eval, e54, e55, e57, e58] <;> rfl) (fun _ _ => by kernel_rfl) ((front_call hS (sg h2) (fun os1 h => erasecells_front (i := m) (f := 0) (t := cols) q HT.out h hc hcm HRN.out hnN HQ.out hLmN (by omega) (by omega))).mono fun e w2 ⟨h1, h2⟩ => ⟨_, h1, sp_set 2 _ (by kernel_rfl) (by simp) (by decide) hl hs (by rfl) h2 rfl, trivial⟩)
        refine SSteps.cons (fun a w' vs σ hS hl hs hk => ?_) ?_
        · have e59 : a.tmps.getD 59 undef = (.int .i64 0 : Value) := (sk_val hk 5 (by kernel_rfl) rfl rfl).trans ((hk.1 5 (by kernel_rfl)).1)
          have f59 := gd e59
          exact ro_pure (v := .int .i64 0) (wanted_none rfl) (by simp [execOp, Act.eval, e59, f59, go_sem]) (sp_same (by kernel_rfl) hl hs hS (show (.int .i64 0 : Value) = _ from rfl)) trivial
        exact SSteps.nil
      · intro vs w' hS hv
        have q0 := (show vs 0 = (.pointer (some ⟨p, 0, none⟩) : Value) from hv 0 (by decide))
        have q1 := (show vs 1 = (.int .i64 ↑m : Value) from hv 1 (by decide))
        have q2 := (show vs 2 = (.pointer (some ⟨p, 0, none⟩) : Value) from hv 2 (by decide))
        have q3 := (show vs 3 = (.int .i64 ↑cols : Value) from hv 3 (by decide))
        have q4 := (show vs 4 = (.agg (pv q) : Value) from hv 4 (by decide))
        have q5 := (show vs 5 = (.int .i64 0 : Value) from hv 5 (by decide))
        have q6 := (show vs 6 = (.int .i64 0 : Value) from hv 6 (by decide))
        have S2 := Lib.hid hS
        simp only [putL, Act.put, Nat.zero_add, Nat.reduceAdd, List.setIfInBounds_toArray, List.set_cons_succ, List.set_cons_zero, q0, q1, q2, q3, q4, q5, q6]
        clear hS hv q0 q1 q2 q3 q4 q5 q6
        go_wp2_with fail
        go_roundw
        case rel => exact ⟨m + 1, by omega, by go_num, by rw [← HN.out]; exact S2.out⟩
        case measure => simp [intOf]; omega
end
end Go.Proofs.YtjligfbaljnhnaaDoor

/-
  Erasing by the reference.
-/
set_option linter.unusedSimpArgs false
set_option linter.unusedVariables false
namespace Go.Proofs.YtjligfbaljnhnaaDoor
open Go.RowKit

section
variable {w0 w : World} {os : List Ob} {k p cols : Nat} {L : List Ln}
set_option maxHeartbeats 2000000 in
theorem r17Erase_front {y f t : Nat} (q : Pen) (hS : Objs w0 w (.grid p 48 cols L :: os)) (hc : 0 < cols) (hcm : cols ≤ 1000) (hR : Rect cols L) (hi : y < L.length) (hLm : L.length ≤ 1000000) (ht : t ≤ cols) :
    Calls Tryd.prog 89 #[.pointer (some ⟨p, 0, none⟩), .int .i64 y, .int .i64 f, .int .i64 t, .agg (pv q)] w fun e w' => e = .returned (.tuple #[]) ∧ Objs w0 w' (.grid p 48 cols (eraseRow cols y f t q L) :: os) := by
  have S := Lib.hid hS
  have HR := Lib.hid hR
  have HLEN := Lib.hid (show (rowMod y (clearC f t q) L).length = L.length from rowMod_length _ _ _)
  clear hS hR
  go_enter Tryd.func89, Tryd.ntmps89
  go_wp2_with fail
  refine (r14ClearG q S.out.alloc1 (k := 1) rfl hc hcm HR.out hi ht).mono ?_
  rintro e w1 ⟨rfl, hS⟩
  by_cases h1 : f < t
  · by_cases h2 : t = cols
    · have HE := Lib.hid (eraseRow_soft (i := y) (q := q) (L := L) (⟨h1, h2⟩ : f < t ∧ t = cols))
      have h3 : ((t : Int) == (cols : Int)) = true := by simp; omega
      obtain ⟨LN, hLN⟩ : ∃ LN, LN = rowMod y (clearC f t q) L := ⟨_, rfl⟩
      rw [← hLN] at hS
      have hyN : y < LN.length := by rw [hLN, HLEN.out]; exact hi
      have hlm : LN.length ≤ 1000000 := by rw [hLN, HLEN.out]; exact hLm
      obtain ⟨l, hl⟩ := get_of hyN
      have HL := Lib.hid hl
      have HX := Lib.hid (show LN.set y (l.1, false) = eraseRow cols y f t q L by rw [← softMod_some hl, hLN, HE.out])
      obtain ⟨v, hS1⟩ := (show Objs w0 w1 (.box _ _ _ :: .grid p 48 cols LN :: os) from hS).openGrid (k := 1) rfl
      obtain ⟨A, c, rfl, hcm2, hrd⟩ := hS1.linesRd (k := 0) rfl
      obtain ⟨F, bs, hF, -⟩ := hS1.get (k := 0) rfl
      obtain ⟨A2, c2, e2, -, -, -, h4⟩ := hF.form
      simp only [Value.slice.injEq, true_and] at e2
      obtain ⟨rfl, rfl⟩ := e2
      obtain ⟨g, rfl, hz, -, hso, hfz⟩ := h4 (by omega)
      have hso2 := hso y l HL.out
      obtain ⟨hx0, hf0, hz0⟩ := (hS1.box (k := 2) rfl).facts
      have S2 := Lib.hid (((hS1.storeSoft (k := 0) (s := false) rfl HL.out) : Objs w0 _ (.lines _ _ :: _ :: _ :: os)).closeGrid (k := 1) rfl)
      clear hS hS1 S hcm2 hrd hF h4 hso h2 hLN hl
      go_wp2_with fail
      refine bodyPost_end (results_none rfl _ _ _) rfl ?_
      exact ⟨rfl, by rw [← HX.out]; exact S2.out.tail⟩
    · have HE := Lib.hid (eraseRow_keep (cols := cols) (i := y) (f := f) (q := q) (L := L) (t := t) (by omega))
      have h3 : ((t : Int) == (cols : Int)) = false := by rw [beq_eq_false_iff_ne]; omega
      obtain ⟨A, c, hB, -, -⟩ := hS.gridRd (k := 1) rfl
      obtain ⟨hx0, hf0, hz0⟩ := hB.facts
      have S2 := Lib.hid hS
      clear h2 hS hB
      go_wp2_with fail
      refine bodyPost_end (results_none rfl _ _ _) rfl ?_
      exact ⟨rfl, by rw [← HE.out]; exact S2.out.tail⟩
  · have HE := Lib.hid (eraseRow_keep (cols := cols) (i := y) (f := f) (q := q) (L := L) (t := t) (by omega))
    have S2 := Lib.hid hS
    clear hS
    go_wp2_with fail
    refine bodyPost_end (results_none rfl _ _ _) rfl ?_
    exact ⟨rfl, by rw [← HE.out]; exact S2.out.tail⟩
set_option maxHeartbeats 2000000 in
theorem r17InLine_front {y j : Nat} {pend : Bool} (n : Int) (q : Pen) (hS : Objs w0 w (.grid p 48 cols L :: os)) (hcm : cols ≤ 1000) (hR : Rect cols L) (hLm : L.length ≤ 1000000) (hi : y < L.length) (hj : j < cols) :
    Calls Tryd.prog 60 #[.pointer (some ⟨p, 0, none⟩), .agg #[.int .i64 y, .int .i64 j, .bool pend], .int .i64 n, .agg (pv q)] w fun e w' => e = .returned (.tuple #[]) ∧ Objs w0 w' (.grid p 48 cols (eraseLine cols y j n q L) :: os) := by
  have hc : 0 < cols := by omega
  have S := Lib.hid hS
  have HR := Lib.hid hR
  clear hS hR
  have HF := Lib.hid (show ∀ f t : Nat, (f : Int) = (eFrom n j : Nat) → (t : Int) = (eTo n j cols : Nat) → ∀ W : World, Objs w0 W (.box (w.heap.size + 1) 29 (pv q) :: .box w.heap.size 23 #[.int .i64 y, .int .i64 j, .bool pend] :: .grid p 48 cols L :: os) →
      Calls Tryd.prog 89 #[.pointer (some ⟨p, 0, none⟩), .int .i64 y, .int .i64 f, .int .i64 t, .agg (pv q)] W fun e w' => e = .returned (.tuple #[]) ∧ Objs w0 w' (.box (w.heap.size + 1) 29 (pv q) :: .box w.heap.size 23 #[.int .i64 y, .int .i64 j, .bool pend] :: .grid p 48 cols (eraseLine cols y j n q L) :: os) from fun f t hf ht W hW => by
    have e1 : f = eFrom n j := by omega
    have e2 : t = eTo n j cols := by omega
    subst e1 e2
    exact front_call hW (k := 2) rfl (fun os1 h => r17Erase_front q h hc hcm HR.out hi hLm (eTo_le hj)))
  by_cases h0 : n = 0
  · have h1 := beq_yes h0
    have h2 := beq_no (show ¬ n = 1 by omega)
    have HF2 := Lib.hid (HF.out j cols (by simp [eFrom, h0]) (by simp [eTo, h0]))
    clear h0
    go_enter Tryd.func60, Tryd.ntmps60
    go_upto_region 1 with (fail)
    refine at_objsC S.out.alloc2 (fun W hSW => ?_)
    obtain ⟨A, c, hB, -, -⟩ := hSW.gridRd (k := 2) rfl
    obtain ⟨hx0, hf0, hz0⟩ := hB.facts
    have SW := Lib.hid hSW
    clear hB hSW
    refine wp_region_below (by kernel_rfl) (by kernel_rfl) ?_
    repeat (go_big_quiet_step (fail))
    refine wpQuiet_nil ?_
    intro w2 hb2
    have S2 := Lib.hid (SW.out.bel hb2)
    clear hx0 hf0 hz0
    obtain ⟨hx5, hf5, hz5⟩ := (S2.out.box (k := 1) rfl).facts
    have hp7 := (S2.out.box (k := 0) rfl).penAt
    go_wp2_with fail
    refine (HF2.out _ S2.out).mono ?_
    rintro e w3 ⟨rfl, hS⟩
    have S3 := Lib.hid hS
    clear hS
    go_wp2_with fail
    refine bodyPost_end (results_none rfl _ _ _) rfl ?_
    exact ⟨rfl, S3.out.tail.tail⟩
  · have h1 := beq_no h0
    by_cases h3 : n = 1
    · have h2 := beq_yes h3
      have HF2 := Lib.hid (HF.out 0 (j + 1) (by simp [eFrom, h0]) (by simp [eTo, h3]))
      have hw := Lib.hid (IntWalk.i64_in ((j : Int) + 1) (by omega))
      clear h0 h3
      go_enter Tryd.func60, Tryd.ntmps60
      go_upto_region 1 with (fail)
      refine at_objsC S.out.alloc2 (fun W hSW => ?_)
      obtain ⟨A, c, hB, -, -⟩ := hSW.gridRd (k := 2) rfl
      obtain ⟨hx0, hf0, hz0⟩ := hB.facts
      have SW := Lib.hid hSW
      clear hB hSW
      refine wp_region_below (by kernel_rfl) (by kernel_rfl) ?_
      repeat (go_big_quiet_step (fail))
      refine wpQuiet_nil ?_
      intro w2 hb2
      have S2 := Lib.hid (SW.out.bel hb2)
      clear hx0 hf0 hz0
      obtain ⟨hx5, hf5, hz5⟩ := (S2.out.box (k := 1) rfl).facts
      have hp7 := (S2.out.box (k := 0) rfl).penAt
      go_wp2_with fail
      refine (HF2.out _ S2.out).mono ?_
      rintro e w3 ⟨rfl, hS⟩
      have S3 := Lib.hid hS
      clear hS
      go_wp2_with fail
      refine bodyPost_end (results_none rfl _ _ _) rfl ?_
      exact ⟨rfl, S3.out.tail.tail⟩
    · have h2 := beq_no h3
      have HF2 := Lib.hid (HF.out 0 cols (by simp [eFrom, h0]) (by simp [eTo, h3]))
      clear h0 h3
      go_enter Tryd.func60, Tryd.ntmps60
      go_upto_region 1 with (fail)
      refine at_objsC S.out.alloc2 (fun W hSW => ?_)
      obtain ⟨A, c, hB, -, -⟩ := hSW.gridRd (k := 2) rfl
      obtain ⟨hx0, hf0, hz0⟩ := hB.facts
      have SW := Lib.hid hSW
      clear hB hSW
      refine wp_region_below (by kernel_rfl) (by kernel_rfl) ?_
      repeat (go_big_quiet_step (fail))
      refine wpQuiet_nil ?_
      intro w2 hb2
      have S2 := Lib.hid (SW.out.bel hb2)
      clear hx0 hf0 hz0
      obtain ⟨hx5, hf5, hz5⟩ := (S2.out.box (k := 1) rfl).facts
      have hp7 := (S2.out.box (k := 0) rfl).penAt
      go_wp2_with fail
      refine (HF2.out _ S2.out).mono ?_
      rintro e w3 ⟨rfl, hS⟩
      have S3 := Lib.hid hS
      clear hS
      go_wp2_with fail
      refine bodyPost_end (results_none rfl _ _ _) rfl ?_
      exact ⟨rfl, S3.out.tail.tail⟩
set_option maxRecDepth 100000 in
set_option maxHeartbeats 4000000 in
theorem r17Chars_front {y j : Nat} {pend : Bool} (n : Int) (q : Pen) (hS : Objs w0 w (.grid p 48 cols L :: os)) (hcm : cols ≤ 1000) (hR : Rect cols L) (hLm : L.length ≤ 1000000) (hi : y < L.length) (hj : j < cols) (hn : 0 ≤ n) :
    Calls Tryd.prog 62 #[.pointer (some ⟨p, 0, none⟩), .agg #[.int .i64 y, .int .i64 j, .bool pend], .int .i64 n, .agg (pv q)] w fun e w' => e = .returned (.tuple #[]) ∧ Objs w0 w' (.grid p 48 cols (eraseCh cols y j n q L) :: os) := by
  have hc : 0 < cols := by omega
  obtain ⟨m, hm⟩ : ∃ m : Nat, m = (min n ((cols - j : Nat) : Int)).toNat := ⟨_, rfl⟩
  have hmin : min n ((cols : Int) - (j : Int)) = (m : Int) := by omega
  have hmc : j + m ≤ cols := by omega
  have HM := Lib.hid hm
  have HMIN := Lib.hid hmin
  have HW1 := Lib.hid (show IntKind.i64.wrap ((cols : Int) - (j : Int)) = (cols : Int) - (j : Int) from IntWalk.i64_in _ (by omega))
  have HW2 := Lib.hid (show IntKind.i64.wrap ((j : Int) + (m : Int)) = (j : Int) + (m : Int) from IntWalk.i64_in _ (by omega))
  have HR := Lib.hid hR
  have S2 := Lib.hid (hS.alloc2 (c1 := #[.int .i64 y, .int .i64 j, .bool pend]) (t1 := 23) (c2 := pv q) (t2 := 29))
  clear hS hR hm hmin
  go_enter Tryd.func62, Tryd.ntmps62
  go_upto_region 1 with (fail)
  generalize w.heap.size + 1 = b7 at S2 ⊢
  generalize w.heap.size = b5 at S2 ⊢
  refine wp_region_stage (w0 := w0) (os := os) (by kernel_rfl) (by kernel_rfl) (by kernel_rfl) [(2, 18, [], fun vs => .grid p 48 ↑cols (eraseRow cols y j (j + m) q L))] [[], [], [1], [], [1], [], [1], [], [], [], [], [2], [], [1], [], [], [], [0], [2]] [.box b7 29 (pv q), .box b5 23 #[.int .i64 ↑y, .int .i64 ↑j, .bool pend], .grid p 48 ↑cols L] (fun i u => match i with | 0 => u = (.pointer (some ⟨p, 0, none⟩) : Value) | 1 => u = (.pointer (some ⟨b5, 0, none⟩) : Value) | 2 => u = (.int .i64 ↑y : Value) | 3 => u = (.pointer (some ⟨b5, 1, none⟩) : Value) | 4 => u = (.int .i64 ↑j : Value) | 5 => u = (.pointer (some ⟨b5, 1, none⟩) : Value) | 6 => u = (.int .i64 ↑j : Value) | 7 => u = (.int .i64 n : Value) | 8 => u = (.pointer (some ⟨p, 0, none⟩) : Value) | 9 => u = (.pointer (some ⟨p, 0, none⟩) : Value) | 10 => u = (.pointer (some ⟨p, 0, none⟩) : Value) | 11 => u = (.int .i64 ↑cols : Value) | 12 => u = (.pointer (some ⟨b5, 1, none⟩) : Value) | 13 => u = (.int .i64 ↑j : Value) | 14 => u = (.int .i64 (↑cols - ↑j) : Value) | 15 => u = (.int .i64 ↑m : Value) | 16 => u = (.int .i64 (↑j + ↑m) : Value) | 17 => u = (.agg (pv q) : Value) | 18 => u = (.tuple #[] : Value) | _ => True) (fun vs => [.box b7 29 (pv q), .box b5 23 #[.int .i64 ↑y, .int .i64 ↑j, .bool pend], .grid p 48 ↑cols (eraseRow cols y j (j + m) q L)]) (by kernel_rfl) (fun vs => by rfl) S2.out ?_ ?_
  · refine SSteps.cons (fun a w' vs σ hS hl hs hk => ?_) ?_
    · have e0 : a.tmps.getD 0 undef = (.pointer (some ⟨p, 0, none⟩) : Value) := (sk_old hk 0 (by kernel_rfl)).trans rfl
      have f0 := gd e0
      exact ro_pure (v := .pointer (some ⟨p, 0, none⟩)) (wanted_none rfl) (by simp [execOp, Act.eval, e0, f0, go_sem]) (sp_same (by kernel_rfl) hl hs hS (show (.pointer (some ⟨p, 0, none⟩) : Value) = _ from rfl)) trivial
    refine SSteps.cons (fun a w' vs σ hS hl hs hk => ?_) ?_
    · have e5 : a.tmps.getD 5 undef = (.pointer (some ⟨b5, 0, none⟩) : Value) := (sk_old hk 5 (by kernel_rfl)).trans rfl
      have f5 := gd e5
      exact ro_pure (v := .pointer (some ⟨b5, 0, none⟩)) (wanted_none rfl) (by simp [execOp, Act.eval, e5, f5, go_sem]) (sp_same (by kernel_rfl) hl hs hS (show (.pointer (some ⟨b5, 0, none⟩) : Value) = _ from rfl)) trivial
    refine SSteps.cons (fun a w' vs σ hS hl hs hk => ?_) ?_
    · have e9 : a.tmps.getD 9 undef = (.pointer (some ⟨b5, 0, none⟩) : Value) := (sk_val hk 1 (by kernel_rfl) rfl rfl).trans ((hk.1 1 (by kernel_rfl)).1)
      have f9 := gd e9
      have hx := (hS.box (sg (hs 1 (by decide)))).cell
      exact ro_pure (v := .int .i64 ↑y) (wanted_none rfl) (by simp [execOp, Act.eval, e9, f9, go_sem, hx]) (sp_same (by kernel_rfl) hl hs hS (show (.int .i64 ↑y : Value) = _ from rfl)) trivial
    refine SSteps.cons (fun a w' vs σ hS hl hs hk => ?_) ?_
    · have e5 : a.tmps.getD 5 undef = (.pointer (some ⟨b5, 0, none⟩) : Value) := (sk_old hk 5 (by kernel_rfl)).trans rfl
      have f5 := gd e5
      exact ro_pure (v := .pointer (some ⟨b5, 1, none⟩)) (wanted_none rfl) (by simp [execOp, Act.eval, e5, f5, go_sem]) (sp_same (by kernel_rfl) hl hs hS (show (.pointer (some ⟨b5, 1, none⟩) : Value) = _ from rfl)) trivial
    refine SSteps.cons (fun a w' vs σ hS hl hs hk => ?_) ?_
    · have e11 : a.tmps.getD 11 undef = (.pointer (some ⟨b5, 1, none⟩) : Value) := (sk_val hk 3 (by kernel_rfl) rfl rfl).trans ((hk.1 3 (by kernel_rfl)).1)
      have f11 := gd e11
      have hx := (hS.box (sg (hs 1 (by decide)))).cell
      exact ro_pure (v := .int .i64 ↑j) (wanted_none rfl) (by simp [execOp, Act.eval, e11, f11, go_sem, hx]) (sp_same (by kernel_rfl) hl hs hS (show (.int .i64 ↑j : Value) = _ from rfl)) trivial
    refine SSteps.cons (fun a w' vs σ hS hl hs hk => ?_) ?_
    · have e5 : a.tmps.getD 5 undef = (.pointer (some ⟨b5, 0, none⟩) : Value) := (sk_old hk 5 (by kernel_rfl)).trans rfl
      have f5 := gd e5
      exact ro_pure (v := .pointer (some ⟨b5, 1, none⟩)) (wanted_none rfl) (by simp [execOp, Act.eval, e5, f5, go_sem]) (sp_same (by kernel_rfl) hl hs hS (show (.pointer (some ⟨b5, 1, none⟩) : Value) = _ from rfl)) trivial
    refine SSteps.cons (fun a w' vs σ hS hl hs hk => ?_) ?_
    · have e13 : a.tmps.getD 13 undef = (.pointer (some ⟨b5, 1, none⟩) : Value) := (sk_val hk 5 (by kernel_rfl) rfl rfl).trans ((hk.1 5 (by kernel_rfl)).1)
      have f13 := gd e13
      have hx := (hS.box (sg (hs 1 (by decide)))).cell
      exact ro_pure (v := .int .i64 ↑j) (wanted_none rfl) (by simp [execOp, Act.eval, e13, f13, go_sem, hx]) (sp_same (by kernel_rfl) hl hs hS (show (.int .i64 ↑j : Value) = _ from rfl)) trivial
    refine SSteps.cons (fun a w' vs σ hS hl hs hk => ?_) ?_
    · have e2 : a.tmps.getD 2 undef = (.int .i64 n : Value) := (sk_old hk 2 (by kernel_rfl)).trans rfl
      have f2 := gd e2
      exact ro_pure (v := .int .i64 n) (wanted_none rfl) (by simp [execOp, Act.eval, e2, f2, go_sem]) (sp_same (by kernel_rfl) hl hs hS (show (.int .i64 n : Value) = _ from rfl)) trivial
    refine SSteps.cons (fun a w' vs σ hS hl hs hk => ?_) ?_
    · have e0 : a.tmps.getD 0 undef = (.pointer (some ⟨p, 0, none⟩) : Value) := (sk_old hk 0 (by kernel_rfl)).trans rfl
      have f0 := gd e0
      exact ro_pure (v := .pointer (some ⟨p, 0, none⟩)) (wanted_none rfl) (by simp [execOp, Act.eval, e0, f0, go_sem]) (sp_same (by kernel_rfl) hl hs hS (show (.pointer (some ⟨p, 0, none⟩) : Value) = _ from rfl)) trivial
    refine SSteps.cons (fun a w' vs σ hS hl hs hk => ?_) ?_
    · have e16 : a.tmps.getD 16 undef = (.pointer (some ⟨p, 0, none⟩) : Value) := (sk_val hk 8 (by kernel_rfl) rfl rfl).trans ((hk.1 8 (by kernel_rfl)).1)
      have f16 := gd e16
      exact ro_pure (v := .pointer (some ⟨p, 0, none⟩)) (wanted_none rfl) (by simp [execOp, Act.eval, e16, f16, go_sem]) (sp_same (by kernel_rfl) hl hs hS (show (.pointer (some ⟨p, 0, none⟩) : Value) = _ from rfl)) trivial
    refine SSteps.cons (fun a w' vs σ hS hl hs hk => ?_) ?_
    · have e17 : a.tmps.getD 17 undef = (.pointer (some ⟨p, 0, none⟩) : Value) := (sk_val hk 9 (by kernel_rfl) rfl rfl).trans ((hk.1 9 (by kernel_rfl)).1)
      have f17 := gd e17
      exact ro_pure (v := .pointer (some ⟨p, 0, none⟩)) (wanted_none rfl) (by simp [execOp, Act.eval, e17, f17, go_sem]) (sp_same (by kernel_rfl) hl hs hS (show (.pointer (some ⟨p, 0, none⟩) : Value) = _ from rfl)) trivial
    refine SSteps.cons (fun a w' vs σ hS hl hs hk => ?_) ?_
    · have e18 : a.tmps.getD 18 undef = (.pointer (some ⟨p, 0, none⟩) : Value) := (sk_val hk 10 (by kernel_rfl) rfl rfl).trans ((hk.1 10 (by kernel_rfl)).1)
      have f18 := gd e18
      obtain ⟨A1, c1, hB1, -, -⟩ := hS.gridRd (sg (hs 2 (by decide)))
      have hx := hB1.cell
      exact ro_pure (v := .int .i64 ↑cols) (wanted_none rfl) (by simp [execOp, Act.eval, e18, f18, go_sem, hx]) (sp_same (by kernel_rfl) hl hs hS (show (.int .i64 ↑cols : Value) = _ from rfl)) trivial
    refine SSteps.cons (fun a w' vs σ hS hl hs hk => ?_) ?_
    · have e5 : a.tmps.getD 5 undef = (.pointer (some ⟨b5, 0, none⟩) : Value) := (sk_old hk 5 (by kernel_rfl)).trans rfl
      have f5 := gd e5
      exact ro_pure (v := .pointer (some ⟨b5, 1, none⟩)) (wanted_none rfl) (by simp [execOp, Act.eval, e5, f5, go_sem]) (sp_same (by kernel_rfl) hl hs hS (show (.pointer (some ⟨b5, 1, none⟩) : Value) = _ from rfl)) trivial
    refine SSteps.cons (fun a w' vs σ hS hl hs hk => ?_) ?_
    · have e20 : a.tmps.getD 20 undef = (.pointer (some ⟨b5, 1, none⟩) : Value) := (sk_val hk 12 (by kernel_rfl) rfl rfl).trans ((hk.1 12 (by kernel_rfl)).1)
      have f20 := gd e20
      have hx := (hS.box (sg (hs 1 (by decide)))).cell
      exact ro_pure (v := .int .i64 ↑j) (wanted_none rfl) (by simp [execOp, Act.eval, e20, f20, go_sem, hx]) (sp_same (by kernel_rfl) hl hs hS (show (.int .i64 ↑j : Value) = _ from rfl)) trivial
    refine SSteps.cons (fun a w' vs σ hS hl hs hk => ?_) ?_
    · have e19 : a.tmps.getD 19 undef = (.int .i64 ↑cols : Value) := (sk_val hk 11 (by kernel_rfl) rfl rfl).trans ((hk.1 11 (by kernel_rfl)).1)
      have f19 := gd e19
      have e21 : a.tmps.getD 21 undef = (.int .i64 ↑j : Value) := (sk_val hk 13 (by kernel_rfl) rfl rfl).trans ((hk.1 13 (by kernel_rfl)).1)
      have f21 := gd e21
      exact ro_pure (v := .int .i64 (↑cols - ↑j)) (wanted_none rfl) (by simp [execOp, Act.eval, e19, f19, e21, f21, go_sem, HW1.out]) (sp_same (by kernel_rfl) hl hs hS (show (.int .i64 (↑cols - ↑j) : Value) = _ from rfl)) trivial
    refine SSteps.cons (fun a w' vs σ hS hl hs hk => ?_) ?_
    · have e15 : a.tmps.getD 15 undef = (.int .i64 n : Value) := (sk_val hk 7 (by kernel_rfl) rfl rfl).trans ((hk.1 7 (by kernel_rfl)).1)
      have f15 := gd e15
      have e22 : a.tmps.getD 22 undef = (.int .i64 (↑cols - ↑j) : Value) := (sk_val hk 14 (by kernel_rfl) rfl rfl).trans ((hk.1 14 (by kernel_rfl)).1)
      have f22 := gd e22
      exact ro_pure (v := .int .i64 ↑m) (wanted_none rfl) (by simp [execOp, Act.eval, e15, f15, e22, f22, go_sem, HMIN.out, resolve, invoke, builtin, Result.andThen]) (sp_same (by kernel_rfl) hl hs hS (show (.int .i64 ↑m : Value) = _ from rfl)) trivial
    refine SSteps.cons (fun a w' vs σ hS hl hs hk => ?_) ?_
    · have e14 : a.tmps.getD 14 undef = (.int .i64 ↑j : Value) := (sk_val hk 6 (by kernel_rfl) rfl rfl).trans ((hk.1 6 (by kernel_rfl)).1)
      have f14 := gd e14
      have e23 : a.tmps.getD 23 undef = (.int .i64 ↑m : Value) := (sk_val hk 15 (by kernel_rfl) rfl rfl).trans ((hk.1 15 (by kernel_rfl)).1)
      have f23 := gd e23
      exact ro_pure (v := .int .i64 (↑j + ↑m)) (wanted_none rfl) (by simp [execOp, Act.eval, e14, f14, e23, f23, go_sem, HW2.out]) (sp_same (by kernel_rfl) hl hs hS (show (.int .i64 (↑j + ↑m) : Value) = _ from rfl)) trivial
    refine SSteps.cons (fun a w' vs σ hS hl hs hk => ?_) ?_
    · have e7 : a.tmps.getD 7 undef = (.pointer (some ⟨b7, 0, none⟩) : Value) := (sk_old hk 7 (by kernel_rfl)).trans rfl
      have f7 := gd e7
      have hx := (hS.box (sg (hs 0 (by decide)))).penAt
      exact ro_pure (v := .agg (pv q)) (wanted_none rfl) (by simp [execOp, Act.eval, e7, f7, go_sem, hx]) (sp_same (by kernel_rfl) hl hs hS (show (.agg (pv q) : Value) = _ from rfl)) trivial
    refine SSteps.cons (fun a w' vs σ hS hl hs hk => ?_) ?_
    · have e8 : a.tmps.getD 8 undef = (.pointer (some ⟨p, 0, none⟩) : Value) := (sk_val hk 0 (by kernel_rfl) rfl rfl).trans ((hk.1 0 (by kernel_rfl)).1)
      have f8 := gd e8
      have e10 : a.tmps.getD 10 undef = (.int .i64 ↑y : Value) := (sk_val hk 2 (by kernel_rfl) rfl rfl).trans ((hk.1 2 (by kernel_rfl)).1)
      have f10 := gd e10
      have e12 : a.tmps.getD 12 undef = (.int .i64 ↑j : Value) := (sk_val hk 4 (by kernel_rfl) rfl rfl).trans ((hk.1 4 (by kernel_rfl)).1)
      have f12 := gd e12
      have e24 : a.tmps.getD 24 undef = (.int .i64 (↑j + ↑m) : Value) := (sk_val hk 16 (by kernel_rfl) rfl rfl).trans ((hk.1 16 (by kernel_rfl)).1)
      have f24 := gd e24
      have e25 : a.tmps.getD 25 undef = (.agg (pv q) : Value) := (sk_val hk 17 (by kernel_rfl) rfl rfl).trans ((hk.1 17 (by kernel_rfl)).1)
      have f25 := gd e25
      have h2 : σ[2]? = some (.grid p 48 ↑cols L) := hs 2 (by decide)
      exact ro_call (f := 89) (wanted_none rfl) rfl (by simp only [List.map_toArray, List.map_cons, List.map_nil, Act.eval, e8, e10, e12, e24, e25] <;> rfl) (fun _ _ => by kernel_rfl) ((front_call hS (sg h2) (fun os1 h => r17Erase_front (y := y) (f := j) (t := j + m) q h hc hcm HR.out hi hLm (by omega))).mono fun e w2 ⟨h1, h2⟩ => ⟨_, h1, sp_set 2 _ (by kernel_rfl) (by simp) (by decide) hl hs (by rfl) h2 rfl, trivial⟩)
    exact SSteps.nil
  · intro vs w' hS hv
    have q0 := (show vs 0 = (.pointer (some ⟨p, 0, none⟩) : Value) from hv 0 (by decide))
    have q1 := (show vs 1 = (.pointer (some ⟨b5, 0, none⟩) : Value) from hv 1 (by decide))
    have q2 := (show vs 2 = (.int .i64 ↑y : Value) from hv 2 (by decide))
    have q3 := (show vs 3 = (.pointer (some ⟨b5, 1, none⟩) : Value) from hv 3 (by decide))
    have q4 := (show vs 4 = (.int .i64 ↑j : Value) from hv 4 (by decide))
    have q5 := (show vs 5 = (.pointer (some ⟨b5, 1, none⟩) : Value) from hv 5 (by decide))
    have q6 := (show vs 6 = (.int .i64 ↑j : Value) from hv 6 (by decide))
    have q7 := (show vs 7 = (.int .i64 n : Value) from hv 7 (by decide))
    have q8 := (show vs 8 = (.pointer (some ⟨p, 0, none⟩) : Value) from hv 8 (by decide))
    have q9 := (show vs 9 = (.pointer (some ⟨p, 0, none⟩) : Value) from hv 9 (by decide))
    have q10 := (show vs 10 = (.pointer (some ⟨p, 0, none⟩) : Value) from hv 10 (by decide))
    have q11 := (show vs 11 = (.int .i64 ↑cols : Value) from hv 11 (by decide))
    have q12 := (show vs 12 = (.pointer (some ⟨b5, 1, none⟩) : Value) from hv 12 (by decide))
    have q13 := (show vs 13 = (.int .i64 ↑j : Value) from hv 13 (by decide))
    have q14 := (show vs 14 = (.int .i64 (↑cols - ↑j) : Value) from hv 14 (by decide))
    have q15 := (show vs 15 = (.int .i64 ↑m : Value) from hv 15 (by decide))
    have q16 := (show vs 16 = (.int .i64 (↑j + ↑m) : Value) from hv 16 (by decide))
    have q17 := (show vs 17 = (.agg (pv q) : Value) from hv 17 (by decide))
    have q18 := (show vs 18 = (.tuple #[] : Value) from hv 18 (by decide))
    have S2 := Lib.hid hS
    simp only [putL, Act.put, Nat.zero_add, Nat.reduceAdd, List.setIfInBounds_toArray, List.set_cons_succ, List.set_cons_zero, q0, q1, q2, q3, q4, q5, q6, q7, q8, q9, q10, q11, q12, q13, q14, q15, q16, q17, q18]
    clear hS hv q0 q1 q2 q3 q4 q5 q6 q7 q8 q9 q10 q11 q12 q13 q14 q15 q16 q17 q18
    go_wp2_with fail
    refine bodyPost_end (results_none rfl _ _ _) rfl ?_
    exact ⟨rfl, by unfold eraseCh; rw [← HM.out]; exact S2.out.tail.tail⟩
set_option maxRecDepth 100000 in
set_option maxHeartbeats 4000000 in
theorem r17InScreen_front {y j : Nat} {pend : Bool} (n : Int) (q : Pen) (hS : Objs w0 w (.grid p 48 cols L :: os)) (hcm : cols ≤ 1000) (hR : Rect cols L) (hLm : L.length ≤ 1000000) (hi : y < L.length) (hj : j < cols) :
    Calls Tryd.prog 61 #[.pointer (some ⟨p, 0, none⟩), .agg #[.int .i64 y, .int .i64 j, .bool pend], .int .i64 n, .agg (pv q)] w fun e w' => e = .returned (.tuple #[]) ∧ Objs w0 w' (.grid p 48 cols (eraseScr cols y j n q L) :: os) := by
  have hc : 0 < cols := by omega
  have S := Lib.hid hS
  have HR := Lib.hid hR
  clear hS hR
  go_enter Tryd.func61, Tryd.ntmps61
  go_wp2_with fail
  refine (front_call S.out.alloc2 (k := 2) rfl (fun os1 h => r17InLine_front n q h hcm HR.out hLm hi hj)).mono ?_
  rintro e w1 ⟨rfl, hS⟩
  have HLL := Lib.hid (eraseLine_length cols y j n q L)
  have HRD := Lib.hid (show Rect cols (eraseLine cols y j n q L) from HR.out.eraseLine _ _ _ hj)
  have S2b := Lib.hid hS
  clear hS S
  generalize w.heap.size + 1 = b7 at S2b ⊢
  generalize w.heap.size = b5 at S2b ⊢
  go_wp2_with fail
  go_loopw [8] (fun x wr => ∃ m : Nat, m ≤ L.length ∧ x = .int .i64 m ∧ Objs w0 wr (.box b7 29 (pv q) :: .box b5 23 #[.int .i64 y, .int .i64 j, .bool pend] :: .grid p 48 cols (eraseOthers cols y n q m (eraseLine cols y j n q L)) :: os)) (fun x _ => L.length - (intOf x).toNat)
  case atStart => exact ⟨0, Nat.zero_le _, rfl, S2b.out⟩
  case round =>
    obtain ⟨m, hm, rfl, hS⟩ := hrel
    obtain ⟨hx5, hf5, hz5⟩ := (hS.box (k := 1) rfl).facts
    obtain ⟨A, c, hB, -, -⟩ := hS.gridRd (k := 2) rfl
    have hlN : (eraseOthers cols y n q m (eraseLine cols y j n q L)).length = L.length := by rw [eraseOthers_length, HLL.out]
    rw [hlN] at hB
    obtain ⟨hx0, hf0, hz0⟩ := hB.facts
    clear hlN hB
    by_cases hlt : m < L.length
    case neg =>
      have hml : m = L.length := by omega
      have HS := Lib.hid (show Objs w0 wr (.box b7 29 (pv q) :: .box b5 23 #[.int .i64 y, .int .i64 j, .bool pend] :: .grid p 48 cols (eraseScr cols y j n q L) :: os) by unfold eraseScr; rw [← hml]; exact hS)
      clear hS hml
      go_wp2_with fail
      refine bodyPost_end (results_none rfl _ _ _) rfl ?_
      exact ⟨rfl, HS.out.tail.tail⟩
    obtain ⟨LN, hLN⟩ : ∃ LN, LN = eraseOthers cols y n q m (eraseLine cols y j n q L) := ⟨_, rfl⟩
    rw [← hLN] at hS
    have hnN : m < LN.length := by rw [hLN, eraseOthers_length, HLL.out]; exact hlt
    have hLmN : LN.length ≤ 1000000 := by rw [hLN, eraseOthers_length, HLL.out]; exact hLm
    have HRN := Lib.hid (show Rect cols LN by rw [hLN]; exact HRD.out.eraseOthers _ _ _ _)
    have S3 := Lib.hid hS
    by_cases ho : otherRow y n m
    case neg =>
      have HN := Lib.hid (show eraseOthers cols y n q (m + 1) (eraseLine cols y j n q L) = LN by rw [hLN]; unfold eraseOthers; rw [if_neg ho]; cases m <;> rfl)
      clear hS hLN
      by_cases h1 : m < y
      · have hn0 : n = 0 := by unfold otherRow at ho; omega
        have hb0 := bne_no hn0
        have hnl : ¬ ((y : Int) < m) := by omega
        clear ho hn0
        go_wp2_with fail
        go_roundw
        case rel => exact ⟨m + 1, by omega, by go_num, by rw [HN.out]; exact S3.out⟩
        case measure => simp [intOf]; omega
      · by_cases h2 : y < m
        · have hn1 : n = 1 := by unfold otherRow at ho; omega
          have hb1 := bne_no hn1
          clear ho hn1
          go_wp2_with fail
          go_roundw
          case rel => exact ⟨m + 1, by omega, by go_num, by rw [HN.out]; exact S3.out⟩
          case measure => simp [intOf]; omega
        · clear ho
          go_wp2_with fail
          go_roundw
          case rel => exact ⟨m + 1, by omega, by go_num, by rw [HN.out]; exact S3.out⟩
          case measure => simp [intOf]; omega
    have HN := Lib.hid (show eraseRow cols m 0 cols q LN = eraseOthers cols y n q (m + 1) (eraseLine cols y j n q L) by rw [hLN]; conv => { rhs; unfold eraseOthers }; rw [if_pos ho])
    clear hS hLN
    rcases ho with ⟨h1, h2⟩ | ⟨h1, h2⟩
    · have hb := bne_yes h2
      have hnlt : ¬ (y : Int) < m := by omega
      clear h2
      go_upto_region 6 with (fail)
      refine wp_region_stage (w0 := w0) (os := os) (by kernel_rfl) (by kernel_rfl) (by kernel_rfl) [(2, 7, [], fun vs => .grid p 48 ↑cols (eraseRow cols m 0 cols q LN))] [[], [], [], [], [], [2], [0], [2]] [.box b7 29 (pv q), .box b5 23 #[.int .i64 ↑y, .int .i64 ↑j, .bool pend], .grid p 48 ↑cols LN] (fun i u => match i with | 0 => u = (.pointer (some ⟨p, 0, none⟩) : Value) | 1 => u = (.int .i64 ↑m : Value) | 2 => u = (.pointer (some ⟨p, 0, none⟩) : Value) | 3 => u = (.pointer (some ⟨p, 0, none⟩) : Value) | 4 => u = (.pointer (some ⟨p, 0, none⟩) : Value) | 5 => u = (.int .i64 ↑cols : Value) | 6 => u = (.agg (pv q) : Value) | 7 => u = (.tuple #[] : Value) | _ => True) (fun vs => [.box b7 29 (pv q), .box b5 23 #[.int .i64 ↑y, .int .i64 ↑j, .bool pend], .grid p 48 ↑cols (eraseRow cols m 0 cols q LN)]) (by kernel_rfl) (fun vs => by rfl) S3.out ?_ ?_
      · refine SSteps.cons (fun a w' vs σ hS hl hs hk => ?_) ?_
        · have e0 : a.tmps.getD 0 undef = (.pointer (some ⟨p, 0, none⟩) : Value) := (sk_old hk 0 (by kernel_rfl)).trans rfl
          have f0 := gd e0
          exact ro_pure (v := .pointer (some ⟨p, 0, none⟩)) (wanted_none rfl) (by simp [execOp, Act.eval, e0, f0, go_sem]) (sp_same (by kernel_rfl) hl hs hS (show (.pointer (some ⟨p, 0, none⟩) : Value) = _ from rfl)) trivial
        refine SSteps.cons (fun a w' vs σ hS hl hs hk => ?_) ?_
        · have e8 : a.tmps.getD 8 undef = (.int .i64 ↑m : Value) := (sk_old hk 8 (by kernel_rfl)).trans rfl
          have f8 := gd e8
          exact ro_pure (v := .int .i64 ↑m) (wanted_none rfl) (by simp [execOp, Act.eval, e8, f8, go_sem]) (sp_same (by kernel_rfl) hl hs hS (show (.int .i64 ↑m : Value) = _ from rfl)) trivial
        refine SSteps.cons (fun a w' vs σ hS hl hs hk => ?_) ?_
        · have e0 : a.tmps.getD 0 undef = (.pointer (some ⟨p, 0, none⟩) : Value) := (sk_old hk 0 (by kernel_rfl)).trans rfl
          have f0 := gd e0
          exact ro_pure (v := .pointer (some ⟨p, 0, none⟩)) (wanted_none rfl) (by simp [execOp, Act.eval, e0, f0, go_sem]) (sp_same (by kernel_rfl) hl hs hS (show (.pointer (some ⟨p, 0, none⟩) : Value) = _ from rfl)) trivial
        refine SSteps.cons (fun a w' vs σ hS hl hs hk => ?_) ?_
        · have e43 : a.tmps.getD 43 undef = (.pointer (some ⟨p, 0, none⟩) : Value) := (sk_val hk 2 (by kernel_rfl) rfl rfl).trans ((hk.1 2 (by kernel_rfl)).1)
          have f43 := gd e43
          exact ro_pure (v := .pointer (some ⟨p, 0, none⟩)) (wanted_none rfl) (by simp [execOp, Act.eval, e43, f43, go_sem]) (sp_same (by kernel_rfl) hl hs hS (show (.pointer (some ⟨p, 0, none⟩) : Value) = _ from rfl)) trivial
        refine SSteps.cons (fun a w' vs σ hS hl hs hk => ?_) ?_
        · have e44 : a.tmps.getD 44 undef = (.pointer (some ⟨p, 0, none⟩) : Value) := (sk_val hk 3 (by kernel_rfl) rfl rfl).trans ((hk.1 3 (by kernel_rfl)).1)
          have f44 := gd e44
          exact ro_pure (v := .pointer (some ⟨p, 0, none⟩)) (wanted_none rfl) (by simp [execOp, Act.eval, e44, f44, go_sem]) (sp_same (by kernel_rfl) hl hs hS (show (.pointer (some ⟨p, 0, none⟩) : Value) = _ from rfl)) trivial
        refine SSteps.cons (fun a w' vs σ hS hl hs hk => ?_) ?_
        · have e45 : a.tmps.getD 45 undef = (.pointer (some ⟨p, 0, none⟩) : Value) := (sk_val hk 4 (by kernel_rfl) rfl rfl).trans ((hk.1 4 (by kernel_rfl)).1)
          have f45 := gd e45
          obtain ⟨A1, c1, hB1, -, -⟩ := hS.gridRd (sg (hs 2 (by decide)))
          have hx := hB1.cell
          exact ro_pure (v := .int .i64 ↑cols) (wanted_none rfl) (by simp [execOp, Act.eval, e45, f45, go_sem, hx]) (sp_same (by kernel_rfl) hl hs hS (show (.int .i64 ↑cols : Value) = _ from rfl)) trivial
        refine SSteps.cons (fun a w' vs σ hS hl hs hk => ?_) ?_
        · have e7 : a.tmps.getD 7 undef = (.pointer (some ⟨b7, 0, none⟩) : Value) := (sk_old hk 7 (by kernel_rfl)).trans rfl
          have f7 := gd e7
          have hx := (hS.box (sg (hs 0 (by decide)))).penAt
          exact ro_pure (v := .agg (pv q)) (wanted_none rfl) (by simp [execOp, Act.eval, e7, f7, go_sem, hx]) (sp_same (by kernel_rfl) hl hs hS (show (.agg (pv q) : Value) = _ from rfl)) trivial
        refine SSteps.cons (fun a w' vs σ hS hl hs hk => ?_) ?_
        · have e41 : a.tmps.getD 41 undef = (.pointer (some ⟨p, 0, none⟩) : Value) := (sk_val hk 0 (by kernel_rfl) rfl rfl).trans ((hk.1 0 (by kernel_rfl)).1)
          have f41 := gd e41
          have e42 : a.tmps.getD 42 undef = (.int .i64 ↑m : Value) := (sk_val hk 1 (by kernel_rfl) rfl rfl).trans ((hk.1 1 (by kernel_rfl)).1)
          have f42 := gd e42
          have e46 : a.tmps.getD 46 undef = (.int .i64 ↑cols : Value) := (sk_val hk 5 (by kernel_rfl) rfl rfl).trans ((hk.1 5 (by kernel_rfl)).1)
          have f46 := gd e46
          have e47 : a.tmps.getD 47 undef = (.agg (pv q) : Value) := (sk_val hk 6 (by kernel_rfl) rfl rfl).trans ((hk.1 6 (by kernel_rfl)).1)
          have f47 := gd e47
          have h2 : σ[2]? = some (.grid p 48 ↑cols LN) := hs 2 (by decide)
          exact ro_call (f := 89) (wanted_none rfl) rfl (by simp only [List.map_toArray, List.map_cons, List.map_nil, Act.eval, e41, e42, e46, e47] <;> rfl) (fun _ _ => by kernel_rfl) ((front_call hS (sg h2) (fun os1 h => r17Erase_front (y := m) (f := 0) (t := cols) q h hc hcm HRN.out hnN hLmN (by omega))).mono fun e w2 ⟨h1, h2⟩ => ⟨_, h1, sp_set 2 _ (by kernel_rfl) (by simp) (by decide) hl hs (by rfl) h2 rfl, trivial⟩)
        exact SSteps.nil
      · intro vs w' hS hv
        have q0 := (show vs 0 = (.pointer (some ⟨p, 0, none⟩) : Value) from hv 0 (by decide))
        have q1 := (show vs 1 = (.int .i64 ↑m : Value) from hv 1 (by decide))
        have q2 := (show vs 2 = (.pointer (some ⟨p, 0, none⟩) : Value) from hv 2 (by decide))
        have q3 := (show vs 3 = (.pointer (some ⟨p, 0, none⟩) : Value) from hv 3 (by decide))
        have q4 := (show vs 4 = (.pointer (some ⟨p, 0, none⟩) : Value) from hv 4 (by decide))
        have q5 := (show vs 5 = (.int .i64 ↑cols : Value) from hv 5 (by decide))
        have q6 := (show vs 6 = (.agg (pv q) : Value) from hv 6 (by decide))
        have q7 := (show vs 7 = (.tuple #[] : Value) from hv 7 (by decide))
        have S2 := Lib.hid hS
        simp only [putL, Act.put, Nat.zero_add, Nat.reduceAdd, List.setIfInBounds_toArray, List.set_cons_succ, List.set_cons_zero, q0, q1, q2, q3, q4, q5, q6, q7]
        clear hS hv q0 q1 q2 q3 q4 q5 q6 q7
        go_wp2_with fail
        go_roundw
        case rel => exact ⟨m + 1, by omega, by go_num, by rw [← HN.out]; exact S2.out⟩
        case measure => simp [intOf]; omega
    · have hb := bne_yes h2
      have hnlt : ¬ (m : Int) < y := by omega
      clear h2
      go_upto_region 6 with (fail)
      refine wp_region_stage (w0 := w0) (os := os) (by kernel_rfl) (by kernel_rfl) (by kernel_rfl) [(2, 7, [], fun vs => .grid p 48 ↑cols (eraseRow cols m 0 cols q LN))] [[], [], [], [], [], [2], [0], [2]] [.box b7 29 (pv q), .box b5 23 #[.int .i64 ↑y, .int .i64 ↑j, .bool pend], .grid p 48 ↑cols LN] (fun i u => match i with | 0 => u = (.pointer (some ⟨p, 0, none⟩) : Value) | 1 => u = (.int .i64 ↑m : Value) | 2 => u = (.pointer (some ⟨p, 0, none⟩) : Value) | 3 => u = (.pointer (some ⟨p, 0, none⟩) : Value) | 4 => u = (.pointer (some ⟨p, 0, none⟩) : Value) | 5 => u = (.int .i64 ↑cols : Value) | 6 => u = (.agg (pv q) : Value) | 7 => u = (.tuple #[] : Value) | _ => True) (fun vs => [.box b7 29 (pv q), .box b5 23 #[.int .i64 ↑y, .int .i64 ↑j, .bool pend], .grid p 48 ↑cols (eraseRow cols m 0 cols q LN)]) (by kernel_rfl) (fun vs => by rfl) S3.out ?_ ?_
      · refine SSteps.cons (fun a w' vs σ hS hl hs hk => ?_) ?_
        · have e0 : a.tmps.getD 0 undef = (.pointer (some ⟨p, 0, none⟩) : Value) := (sk_old hk 0 (by kernel_rfl)).trans rfl
          have f0 := gd e0
          exact ro_pure (v := .pointer (some ⟨p, 0, none⟩)) (wanted_none rfl) (by simp [execOp, Act.eval, e0, f0, go_sem]) (sp_same (by kernel_rfl) hl hs hS (show (.pointer (some ⟨p, 0, none⟩) : Value) = _ from rfl)) trivial
        refine SSteps.cons (fun a w' vs σ hS hl hs hk => ?_) ?_
        · have e8 : a.tmps.getD 8 undef = (.int .i64 ↑m : Value) := (sk_old hk 8 (by kernel_rfl)).trans rfl
          have f8 := gd e8
          exact ro_pure (v := .int .i64 ↑m) (wanted_none rfl) (by simp [execOp, Act.eval, e8, f8, go_sem]) (sp_same (by kernel_rfl) hl hs hS (show (.int .i64 ↑m : Value) = _ from rfl)) trivial
        refine SSteps.cons (fun a w' vs σ hS hl hs hk => ?_) ?_
        · have e0 : a.tmps.getD 0 undef = (.pointer (some ⟨p, 0, none⟩) : Value) := (sk_old hk 0 (by kernel_rfl)).trans rfl
          have f0 := gd e0
          exact ro_pure (v := .pointer (some ⟨p, 0, none⟩)) (wanted_none rfl) (by simp [execOp, Act.eval, e0, f0, go_sem]) (sp_same (by kernel_rfl) hl hs hS (show (.pointer (some ⟨p, 0, none⟩) : Value) = _ from rfl)) trivial
        refine SSteps.cons (fun a w' vs σ hS hl hs hk => ?_) ?_
        · have e43 : a.tmps.getD 43 undef = (.pointer (some ⟨p, 0, none⟩) : Value) := (sk_val hk 2 (by kernel_rfl) rfl rfl).trans ((hk.1 2 (by kernel_rfl)).1)
          have f43 := gd e43
          exact ro_pure (v := .pointer (some ⟨p, 0, none⟩)) (wanted_none rfl) (by simp [execOp, Act.eval, e43, f43, go_sem]) (sp_same (by kernel_rfl) hl hs hS (show (.pointer (some ⟨p, 0, none⟩) : Value) = _ from rfl)) trivial
        refine SSteps.cons (fun a w' vs σ hS hl hs hk => ?_) ?_
        · have e44 : a.tmps.getD 44 undef = (.pointer (some ⟨p, 0, none⟩) : Value) := (sk_val hk 3 (by kernel_rfl) rfl rfl).trans ((hk.1 3 (by kernel_rfl)).1)
          have f44 := gd e44
          exact ro_pure (v := .pointer (some ⟨p, 0, none⟩)) (wanted_none rfl) (by simp [execOp, Act.eval, e44, f44, go_sem]) (sp_same (by kernel_rfl) hl hs hS (show (.pointer (some ⟨p, 0, none⟩) : Value) = _ from rfl)) trivial
        refine SSteps.cons (fun a w' vs σ hS hl hs hk => ?_) ?_
        · have e45 : a.tmps.getD 45 undef = (.pointer (some ⟨p, 0, none⟩) : Value) := (sk_val hk 4 (by kernel_rfl) rfl rfl).trans ((hk.1 4 (by kernel_rfl)).1)
          have f45 := gd e45
          obtain ⟨A1, c1, hB1, -, -⟩ := hS.gridRd (sg (hs 2 (by decide)))
          have hx := hB1.cell
          exact ro_pure (v := .int .i64 ↑cols) (wanted_none rfl) (by simp [execOp, Act.eval, e45, f45, go_sem, hx]) (sp_same (by kernel_rfl) hl hs hS (show (.int .i64 ↑cols : Value) = _ from rfl)) trivial
        refine SSteps.cons (fun a w' vs σ hS hl hs hk => ?_) ?_
        · have e7 : a.tmps.getD 7 undef = (.pointer (some ⟨b7, 0, none⟩) : Value) := (sk_old hk 7 (by kernel_rfl)).trans rfl
          have f7 := gd e7
          have hx := (hS.box (sg (hs 0 (by decide)))).penAt
          exact ro_pure (v := .agg (pv q)) (wanted_none rfl) (by simp [execOp, Act.eval, e7, f7, go_sem, hx]) (sp_same (by kernel_rfl) hl hs hS (show (.agg (pv q) : Value) = _ from rfl)) trivial
        refine SSteps.cons (fun a w' vs σ hS hl hs hk => ?_) ?_
        · have e41 : a.tmps.getD 41 undef = (.pointer (some ⟨p, 0, none⟩) : Value) := (sk_val hk 0 (by kernel_rfl) rfl rfl).trans ((hk.1 0 (by kernel_rfl)).1)
          have f41 := gd e41
          have e42 : a.tmps.getD 42 undef = (.int .i64 ↑m : Value) := (sk_val hk 1 (by kernel_rfl) rfl rfl).trans ((hk.1 1 (by kernel_rfl)).1)
          have f42 := gd e42
          have e46 : a.tmps.getD 46 undef = (.int .i64 ↑cols : Value) := (sk_val hk 5 (by kernel_rfl) rfl rfl).trans ((hk.1 5 (by kernel_rfl)).1)
          have f46 := gd e46
          have e47 : a.tmps.getD 47 undef = (.agg (pv q) : Value) := (sk_val hk 6 (by kernel_rfl) rfl rfl).trans ((hk.1 6 (by kernel_rfl)).1)
          have f47 := gd e47
          have h2 : σ[2]? = some (.grid p 48 ↑cols LN) := hs 2 (by decide)
          exact ro_call (f := 89) (wanted_none rfl) rfl (by simp only [List.map_toArray, List.map_cons, List.map_nil, Act.eval, e41, e42, e46, e47] <;> rfl) (fun _ _ => by kernel_rfl) ((front_call hS (sg h2) (fun os1 h => r17Erase_front (y := m) (f := 0) (t := cols) q h hc hcm HRN.out hnN hLmN (by omega))).mono fun e w2 ⟨h1, h2⟩ => ⟨_, h1, sp_set 2 _ (by kernel_rfl) (by simp) (by decide) hl hs (by rfl) h2 rfl, trivial⟩)
        exact SSteps.nil
      · intro vs w' hS hv
        have q0 := (show vs 0 = (.pointer (some ⟨p, 0, none⟩) : Value) from hv 0 (by decide))
        have q1 := (show vs 1 = (.int .i64 ↑m : Value) from hv 1 (by decide))
        have q2 := (show vs 2 = (.pointer (some ⟨p, 0, none⟩) : Value) from hv 2 (by decide))
        have q3 := (show vs 3 = (.pointer (some ⟨p, 0, none⟩) : Value) from hv 3 (by decide))
        have q4 := (show vs 4 = (.pointer (some ⟨p, 0, none⟩) : Value) from hv 4 (by decide))
        have q5 := (show vs 5 = (.int .i64 ↑cols : Value) from hv 5 (by decide))
        have q6 := (show vs 6 = (.agg (pv q) : Value) from hv 6 (by decide))
        have q7 := (show vs 7 = (.tuple #[] : Value) from hv 7 (by decide))
        have S2 := Lib.hid hS
        simp only [putL, Act.put, Nat.zero_add, Nat.reduceAdd, List.setIfInBounds_toArray, List.set_cons_succ, List.set_cons_zero, q0, q1, q2, q3, q4, q5, q6, q7]
        clear hS hv q0 q1 q2 q3 q4 q5 q6 q7
        go_wp2_with fail
        go_roundw
        case rel => exact ⟨m + 1, by omega, by go_num, by rw [← HN.out]; exact S2.out⟩
        case measure => simp [intOf]; omega
end
end Go.Proofs.YtjligfbaljnhnaaDoor

/-
  Erasing: what is refused.
-/
set_option linter.unusedSimpArgs false
set_option linter.unusedVariables false
namespace Go.Proofs.YtjligfbaljnhnaaDoor
open Go.RowKit

section
variable {w0 w : World} {os : List Ob} {k p cols : Nat} {L : List Ln} {row col : Int} {pend : Bool}
theorem check_02 (row col : Int) (pend : Bool) (q : Pen) (rows cols : Nat) : Hid (checkE row col pend q rows cols = 2) ∨ Hid (checkE row col pend q rows cols = 0) := by
  unfold checkE; split
  · exact .inr (Lib.hid rfl)
  · exact .inl (Lib.hid rfl)
set_option maxHeartbeats 2000000 in
theorem eraseInLine_no (n : Int) (q : Pen) (hT : Tabs w0) (hS : Objs w0 w os) (hk : os[k]? = some (.grid p 35 cols L)) (hc : 0 < cols) (hcm : cols ≤ 1000) (hL : 0 < L.length) (hno : ¬ (checkE row col pend q L.length cols = 0 ∧ 0 ≤ n ∧ n ≤ 2)) :
    Calls Tryd.prog 33 #[.pointer (some ⟨p, 0, none⟩), .agg #[.int .i64 row, .int .i64 col, .bool pend], .int .i64 n, .agg (pv q)] w fun e w' => e = .returned (.int .i64 2) ∧ Objs w0 w' os := by
  have S := Lib.hid hS
  have HT := Lib.hid hT
  have HK := Lib.hid hk
  clear hS hT hk
  rcases check_02 row col pend q L.length cols with HE | HE
  · clear hno
    go_enter Tryd.func33, Tryd.ntmps33
    go_wp2_with fail
    refine (erasecheck_any q HT.out S.out.alloc2 (k := k + 2) HK.out hc hcm hL).mono ?_
    rw [HE.out]
    rintro e w1 ⟨rfl, hS⟩
    have S1 := Lib.hid hS
    clear hS
    go_wp2_with fail
    go_ret
    exact ⟨rfl, S1.out.tail.tail⟩
  · by_cases h0 : n < 0
    · clear hno
      go_enter Tryd.func33, Tryd.ntmps33
      go_wp2_with fail
      refine (erasecheck_any q HT.out S.out.alloc2 (k := k + 2) HK.out hc hcm hL).mono ?_
      rw [HE.out]
      rintro e w1 ⟨rfl, hS⟩
      have S1 := Lib.hid hS
      clear hS
      go_wp2_with fail
      go_ret
      exact ⟨rfl, S1.out.tail.tail⟩
    · have h2 : 2 < n := by have := HE.out; omega
      clear hno
      go_enter Tryd.func33, Tryd.ntmps33
      go_wp2_with fail
      refine (erasecheck_any q HT.out S.out.alloc2 (k := k + 2) HK.out hc hcm hL).mono ?_
      rw [HE.out]
      rintro e w1 ⟨rfl, hS⟩
      have S1 := Lib.hid hS
      clear hS
      go_wp2_with fail
      go_ret
      exact ⟨rfl, S1.out.tail.tail⟩
set_option maxHeartbeats 2000000 in
theorem eraseInScreen_no (n : Int) (q : Pen) (hT : Tabs w0) (hS : Objs w0 w os) (hk : os[k]? = some (.grid p 35 cols L)) (hc : 0 < cols) (hcm : cols ≤ 1000) (hL : 0 < L.length) (hno : ¬ (checkE row col pend q L.length cols = 0 ∧ 0 ≤ n ∧ n ≤ 2)) :
    Calls Tryd.prog 51 #[.pointer (some ⟨p, 0, none⟩), .agg #[.int .i64 row, .int .i64 col, .bool pend], .int .i64 n, .agg (pv q)] w fun e w' => e = .returned (.int .i64 2) ∧ Objs w0 w' os := by
  have S := Lib.hid hS
  have HT := Lib.hid hT
  have HK := Lib.hid hk
  have HNO := Lib.hid hno
  clear hS hT hk hno
  go_enter Tryd.func51, Tryd.ntmps51
  go_wp2_with fail
  refine (eraseInLine_no n q HT.out S.out.alloc2 (k := k + 2) HK.out hc hcm hL HNO.out).mono ?_
  rintro e w1 ⟨rfl, hS⟩
  have S1 := Lib.hid hS
  clear hS
  go_wp2_with fail
  go_ret
  exact ⟨rfl, S1.out.tail.tail⟩
set_option maxHeartbeats 2000000 in
theorem eraseChars_no (n : Int) (q : Pen) (hT : Tabs w0) (hS : Objs w0 w os) (hk : os[k]? = some (.grid p 35 cols L)) (hc : 0 < cols) (hcm : cols ≤ 1000) (hL : 0 < L.length) (hno : ¬ (checkE row col pend q L.length cols = 0 ∧ 0 ≤ n)) :
    Calls Tryd.prog 32 #[.pointer (some ⟨p, 0, none⟩), .agg #[.int .i64 row, .int .i64 col, .bool pend], .int .i64 n, .agg (pv q)] w fun e w' => e = .returned (.int .i64 2) ∧ Objs w0 w' os := by
  have S := Lib.hid hS
  have HT := Lib.hid hT
  have HK := Lib.hid hk
  clear hS hT hk
  rcases check_02 row col pend q L.length cols with HE | HE
  · clear hno
    go_enter Tryd.func32, Tryd.ntmps32
    go_wp2_with fail
    refine (erasecheck_any q HT.out S.out.alloc2 (k := k + 2) HK.out hc hcm hL).mono ?_
    rw [HE.out]
    rintro e w1 ⟨rfl, hS⟩
    have S1 := Lib.hid hS
    clear hS
    go_wp2_with fail
    go_ret
    exact ⟨rfl, S1.out.tail.tail⟩
  · have h0 : n < 0 := by have := HE.out; omega
    clear hno
    go_enter Tryd.func32, Tryd.ntmps32
    go_wp2_with fail
    refine (erasecheck_any q HT.out S.out.alloc2 (k := k + 2) HK.out hc hcm hL).mono ?_
    rw [HE.out]
    rintro e w1 ⟨rfl, hS⟩
    have S1 := Lib.hid hS
    clear hS
    go_wp2_with fail
    go_ret
    exact ⟨rfl, S1.out.tail.tail⟩
/-- A grid that has no rows: nil, or zero. -/
def NoRows (w : World) (gp : Value) : Prop := ∀ w', Below w.heap.size w w' → Calls Tryd.prog 19 #[gp] w' fun e w2 => e = .returned (.int .i64 0) ∧ Below w'.heap.size w' w2
theorem noRows_nil (w : World) : NoRows w (.pointer none) := fun w' _ => (Rows_nil w').mono fun e w2 ⟨h1, h2⟩ => ⟨h1, h2 ▸ Below.refl _ _⟩
theorem noRows_zero {t : TypeId} (h : Blk w p t #[.int .i64 0, .slice none 0 0]) : NoRows w (.pointer (some ⟨p, 0, none⟩)) := fun w' hb => Rows_b (n := 0) (h.bel hb)
theorem NoRows.bel {gp : Value} {w' : World} (h : NoRows w gp) (hb : Below w.heap.size w w') : NoRows w' gp := fun w2 hb2 => h w2 (hb.trans (hb2.mono hb.size))
theorem bel2 (w : World) (c1 c2 : Array Value) (t1 t2 : TypeId) : Below w.heap.size w ((w.alloc (.cells c1 t1)).alloc (.cells c2 t2)) := ((Below.refl _ _).alloc (Nat.le_refl _) _).alloc (by simp) _
set_option maxHeartbeats 2000000 in
theorem erasecheck_zero {gp : Value} (q : Pen) (hr : NoRows w gp) :
    Calls Tryd.prog 67 #[gp, .agg #[.int .i64 row, .int .i64 col, .bool pend], .agg (pv q)] w fun e w' => e = .returned (.int .i64 1) ∧ Below w.heap.size w w' := by
  have HR := Lib.hid hr
  clear hr
  go_enter Tryd.func67, Tryd.ntmps67
  go_wp2_with fail
  refine (HR.out _ (bel2 _ _ _ _ _)).mono ?_
  rintro e w1 ⟨rfl, hb⟩
  have HB := Lib.hid ((bel2 w _ _ _ _).trans (hb.mono (by simp; omega)))
  clear hb
  go_wp2_with fail
  go_ret
  exact ⟨rfl, HB.out⟩
set_option maxHeartbeats 2000000 in
theorem eraseInLine_zero {gp : Value} (n : Int) (q : Pen) (hr : NoRows w gp) :
    Calls Tryd.prog 33 #[gp, .agg #[.int .i64 row, .int .i64 col, .bool pend], .int .i64 n, .agg (pv q)] w fun e w' => e = .returned (.int .i64 1) ∧ Below w.heap.size w w' := by
  have HR := Lib.hid hr
  clear hr
  go_enter Tryd.func33, Tryd.ntmps33
  go_wp2_with fail
  refine (erasecheck_zero q (HR.out.bel (bel2 _ _ _ _ _))).mono ?_
  rintro e w1 ⟨rfl, hb⟩
  have HB := Lib.hid ((bel2 w _ _ _ _).trans (hb.mono (by simp; omega)))
  clear hb
  go_wp2_with fail
  go_ret
  exact ⟨rfl, HB.out⟩
set_option maxHeartbeats 2000000 in
theorem eraseInScreen_zero {gp : Value} (n : Int) (q : Pen) (hr : NoRows w gp) :
    Calls Tryd.prog 51 #[gp, .agg #[.int .i64 row, .int .i64 col, .bool pend], .int .i64 n, .agg (pv q)] w fun e w' => e = .returned (.int .i64 1) ∧ Below w.heap.size w w' := by
  have HR := Lib.hid hr
  clear hr
  go_enter Tryd.func51, Tryd.ntmps51
  go_wp2_with fail
  refine (eraseInLine_zero n q (HR.out.bel (bel2 _ _ _ _ _))).mono ?_
  rintro e w1 ⟨rfl, hb⟩
  have HB := Lib.hid ((bel2 w _ _ _ _).trans (hb.mono (by simp; omega)))
  clear hb
  go_wp2_with fail
  go_ret
  exact ⟨rfl, HB.out⟩
set_option maxHeartbeats 2000000 in
theorem eraseChars_zero {gp : Value} (n : Int) (q : Pen) (hr : NoRows w gp) :
    Calls Tryd.prog 32 #[gp, .agg #[.int .i64 row, .int .i64 col, .bool pend], .int .i64 n, .agg (pv q)] w fun e w' => e = .returned (.int .i64 1) ∧ Below w.heap.size w w' := by
  have HR := Lib.hid hr
  clear hr
  go_enter Tryd.func32, Tryd.ntmps32
  go_wp2_with fail
  refine (erasecheck_zero q (HR.out.bel (bel2 _ _ _ _ _))).mono ?_
  rintro e w1 ⟨rfl, hb⟩
  have HB := Lib.hid ((bel2 w _ _ _ _).trans (hb.mono (by simp; omega)))
  clear hb
  go_wp2_with fail
  go_ret
  exact ⟨rfl, HB.out⟩
end
end Go.Proofs.YtjligfbaljnhnaaDoor

/-
  Records of any size in memory under one name: a whole load is one step.
-/
set_option linter.unusedSimpArgs false
set_option linter.unusedVariables false
namespace Go.Proofs.YtjligfbaljnhnaaDoor
open Go.RowKit

open Classical in
/-- The n values that lie at a place. -/
noncomputable def recAt (w : World) (b o n : Nat) : Option (Array Value) := if h : ∃ cs : Array Value, cs.size = n ∧ w.rangeAt b o cs.toList then some h.choose else none
theorem recAt_of {w : World} {b o n : Nat} {cs : Array Value} (hn : cs.size = n) (h : w.rangeAt b o cs.toList) : recAt w b o n = some cs := by
  have hx : ∃ cs : Array Value, cs.size = n ∧ w.rangeAt b o cs.toList := ⟨cs, hn, h⟩
  unfold recAt
  rw [dif_pos hx]
  exact congrArg some (rangeAt_det (by rw [hx.choose_spec.1, hn]) hx.choose_spec.2 h)
theorem range_of_recAt {w : World} {b o n : Nat} {cs : Array Value} (h : recAt w b o n = some cs) : cs.size = n ∧ w.rangeAt b o cs.toList := by
  unfold recAt at h
  split at h
  · rename_i hx; have := hx.choose_spec; rw [Option.some.inj h] at this; exact this
  · cases h
theorem recAt_same {w w' : World} {b : Nat} (h : ∀ i, w'.cell? ⟨b, i, none⟩ = w.cell? ⟨b, i, none⟩) (o n : Nat) : recAt w' b o n = recAt w b o n := by
  cases h1 : recAt w b o n with
  | some c => exact recAt_of (range_of_recAt h1).1 ((rangeAt_same h).2 (range_of_recAt h1).2)
  | none =>
    cases h2 : recAt w' b o n with
    | none => rfl
    | some c => rw [recAt_of (range_of_recAt h2).1 ((rangeAt_same h).1 (range_of_recAt h2).2)] at h1; cases h1
@[go_sem] theorem recAt_alloc (w : World) (ob : Obj) (b o n : Nat) (h : b < w.heap.size) : recAt (w.alloc ob) b o n = recAt w b o n := recAt_same (fun i => World.cell?_alloc_lt w ob ⟨b, i, none⟩ h) o n
theorem recAt_below {w w' : World} {B b : Nat} (hb : Below B w w') (h : b < B) (o n : Nat) : recAt w' b o n = recAt w b o n := recAt_same (fun i => hb.cell (p := ⟨b, i, none⟩) h) o n
@[go_sem] theorem recAt_plus (w x : World) (b o n : Nat) (h : b < w.heap.size) : recAt (plus w x) b o n = recAt w b o n := recAt_same (fun i => cell_plus w x b i h) o n
@[go_sem] theorem recAt_drew (w : World) (b o n : Nat) : recAt w.drew b o n = recAt w b o n := rfl
theorem recAt_new {b : Nat} (w : World) (cs : Array Value) (t : TypeId) (n : Nat) (hb : b = w.heap.size) (hn : cs.size = n) : recAt (w.alloc (.cells cs t)) b 0 n = some cs := by
  subst hb; exact recAt_of hn (rangeAt_new w _ t)
theorem Blk.recAt {w : World} {g : Nat} {t : TypeId} {cs : Array Value} (h : Blk w g t cs) (n : Nat) (hn : cs.size = n) : Proofs.YtjligfbaljnhnaaDoor.recAt w g 0 n = some cs := recAt_of hn h.range
def ldR (a : Addr) (n : Nat) : Sem (Array Value) := loadCells a n
theorem ldR_of {w : World} {b o n : Nat} {cs : Array Value} (h : recAt w b o n = some cs) : (ldR ⟨b, o, none⟩ n).run Tryd.prog w = .ok cs w := by
  obtain ⟨hn, hr⟩ := range_of_recAt h
  have := run_loadCells_list (P := Tryd.prog) w ⟨b, o, none⟩ cs.toList (fun j v hv => by rw [add_at]; exact hr j v hv)
  subst hn
  simpa [ldR] using this
@[go_sem] theorem run_ldC_row (w : World) (b o : Nat) (h : (recAt w b o 16).isSome = true) : (ldC ⟨b, o, none⟩).run Tryd.prog w = .ok ((recAt w b o 16).getD #[]) w := by
  obtain ⟨c, hc⟩ := Option.isSome_iff_exists.1 h
  rw [hc]; exact ldR_of hc
@[go_sem] theorem run_ldR (w : World) (b o n : Nat) (h : (recAt w b o n).isSome = true) : (ldR ⟨b, o, none⟩ n).run Tryd.prog w = .ok ((recAt w b o n).getD #[]) w := by
  obtain ⟨c, hc⟩ := Option.isSome_iff_exists.1 h
  rw [hc]; exact ldR_of hc
/-- A readable slice of records of k values each. -/
def RdRec (w : World) (A : Option Addr) (c k : Nat) (rs : List (Array Value)) : Prop := rs.length ≤ c ∧ (A = none → c = 0) ∧ (0 < rs.length → ∃ b off, A = some ⟨b, off, none⟩ ∧ b < w.heap.size ∧ ∀ (i : Nat) (r : Array Value), rs[i]? = some r → recAt w b (off + i * k) k = some r)
theorem RdRec.bel {w w' : World} {A : Option Addr} {c k : Nat} {rs : List (Array Value)} (h : RdRec w A c k rs) (hb : Below w.heap.size w w') : RdRec w' A c k rs := ⟨h.1, h.2.1, fun hn => by
  obtain ⟨b, off, rfl, hz, hr⟩ := h.2.2 hn
  exact ⟨b, off, rfl, by have := hb.size; omega, fun i r hi => (recAt_below hb hz _ _).trans (hr i r hi)⟩⟩
theorem RdRec.at_ {w : World} {A : Option Addr} {c k : Nat} {rs : List (Array Value)} (h : RdRec w A c k rs) {i : Nat} {r : Array Value} (hi : rs[i]? = some r) : ∃ b off, A = some ⟨b, off, none⟩ ∧ b < w.heap.size ∧ recAt w b (off + i * k) k = some r := by
  have hl := (List.getElem?_eq_some_iff.1 hi).1
  obtain ⟨b, off, rfl, hz, hr⟩ := h.2.2 (by omega)
  exact ⟨b, off, rfl, hz, hr i r hi⟩
end Go.Proofs.YtjligfbaljnhnaaDoor

/-
  A call of the chapter on erasing, and whether its result was right.
-/
set_option linter.unusedSimpArgs false
set_option linter.unusedVariables false
namespace Go.Proofs.YtjligfbaljnhnaaDoor
open Go.RowKit

structure Act17 where
  what : Int
  n : Int
  row : Int
  col : Int
  pend : Bool
  q : Pen
def av17 (a : Act17) : Array Value := #[.int .i64 a.what, .int .i64 a.n, .int .i64 a.row, .int .i64 a.col, .bool a.pend, .int .i64 a.q.fk, .int .u8 a.q.fi, .int .u8 a.q.fr, .int .u8 a.q.fg, .int .u8 a.q.fb, .int .i64 a.q.bk, .int .u8 a.q.bi, .int .u8 a.q.br, .int .u8 a.q.bg, .int .u8 a.q.bb, .int .u8 a.q.fl]
@[go_sem] theorem av17_size (a : Act17) : (av17 a).size = 16 := by simp [av17]
@[simp high, go_sem high] theorem av17_get0 (a : Act17) : (av17 a)[0]? = some (.int .i64 a.what) := by simp [av17]
@[simp high, go_sem high] theorem av17_get1 (a : Act17) : (av17 a)[1]? = some (.int .i64 a.n) := by simp [av17]
@[simp high, go_sem high] theorem av17_get2 (a : Act17) : (av17 a)[2]? = some (.int .i64 a.row) := by simp [av17]
@[simp high, go_sem high] theorem av17_get3 (a : Act17) : (av17 a)[3]? = some (.int .i64 a.col) := by simp [av17]
@[simp high, go_sem high] theorem av17_get4 (a : Act17) : (av17 a)[4]? = some (.bool a.pend) := by simp [av17]
@[go_sem] theorem av17_set0 (a : Act17) (n : Int) : (av17 a).setIfInBounds 0 (.int .i64 n) = av17 { a with what := n } := by simp [av17]
theorem av17_one (a : Act17) : ∀ v ∈ (av17 a).toList, v.oneCell' = true := by simp [av17, Value.oneCell']
theorem av17_pen {w : World} {b o : Nat} {a : Act17} (h : w.rangeAt b o (av17 a).toList) : penAt w b (o + 5) = some a.q := penAt_of fun j v hv => by
  have := h (5 + j) v (by rw [← hv]; show ((av17 a).toList)[5 + j]? = _; rw [← List.getElem?_drop]; rfl)
  rw [show o + 5 + j = o + (5 + j) by omega]; exact this
/-- What the walk asks of a box that holds a call. -/
theorem Blk.act17 {w : World} {g : Nat} {t : TypeId} {a : Act17} (h : Blk w g t (av17 a)) : (∀ i, w.cell? ⟨g, i, none⟩ = (av17 a)[i]?) ∧ (∀ i, w.frozen? ⟨g, i, none⟩ = false) ∧ g < w.heap.size ∧ Proofs.YtjligfbaljnhnaaDoor.recAt w g 0 16 = some (av17 a) ∧ Proofs.YtjligfbaljnhnaaDoor.penAt w g 5 = some a.q :=
  ⟨h.cell, h.frozen, h.lt, h.recAt 16 (av17_size a), by have := av17_pen h.range; simpa using this⟩
/-- Whether a call is one that is done. -/
def act17ok (a : Act17) (rows cols : Nat) : Bool := inG a.row a.col a.pend rows cols && a.q.ok && decide (0 ≤ a.n ∧ (a.what = 0 ∨ a.what = 1 → a.n ≤ 2))
def act17L (a : Act17) (cols : Nat) (L : List Ln) : List Ln :=
  if a.what = 0 then eraseLine cols a.row.toNat a.col.toNat a.n a.q L else if a.what = 1 then eraseScr cols a.row.toNat a.col.toNat a.n a.q L else eraseCh cols a.row.toNat a.col.toNat a.n a.q L
theorem act17ok_iff {a : Act17} {rows cols : Nat} : act17ok a rows cols = true ↔ inG a.row a.col a.pend rows cols = true ∧ a.q.ok = true ∧ 0 ≤ a.n ∧ (a.what = 0 ∨ a.what = 1 → a.n ≤ 2) := by
  unfold act17ok; rw [Bool.and_eq_true, Bool.and_eq_true, decide_eq_true_eq, and_assoc]
theorem act17_rect {a : Act17} {cols : Nat} {L : List Ln} (hR : Rect cols L) (ho : act17ok a L.length cols = true) : Rect cols (act17L a cols L) ∧ (act17L a cols L).length = L.length := by
  obtain ⟨h1, h2, h3, h4⟩ := act17ok_iff.1 ho
  have hc := (ingrid_iff.1 h1).2.1
  have hj : a.col.toNat < cols := by omega
  unfold act17L
  split
  · exact ⟨hR.eraseLine _ _ _ hj, eraseLine_length _ _ _ _ _ _⟩
  · split
    · exact ⟨hR.eraseScr _ _ _ hj, eraseScr_length _ _ _ _ _ _⟩
    · exact ⟨hR.eraseCh _ _ _ hj h3, eraseCh_length _ _ _ _ _ _⟩
section
variable {w0 w : World} {os : List Ob} {k p cols : Nat} {L : List Ln}
set_option maxHeartbeats 2000000 in
/-- A call that is done. -/
theorem l17call_yes (a : Act17) (hT : Tabs w0) (hS : Objs w0 w os) (hk : os[k]? = some (.grid p 35 cols L)) (hcm : cols ≤ 1000) (hR : Rect cols L) (hLm : L.length ≤ 1000000) (ho : act17ok a L.length cols = true) :
    Calls Tryd.prog 14 #[.pointer (some ⟨p, 0, none⟩), .agg (av17 a)] w fun e w' => e = .returned (.int .i64 0) ∧ Objs w0 w' (os.set k (.grid p 35 cols (act17L a cols L))) := by
  obtain ⟨what, n, row, col, pend, q⟩ := a
  obtain ⟨h1, h2, h3, h4⟩ := act17ok_iff.1 ho
  have hin := ingrid_iff.1 h1
  obtain ⟨y, rfl⟩ : ∃ y : Nat, row = y := ⟨row.toNat, by have := hin.1; simp at this ⊢; omega⟩
  obtain ⟨j, rfl⟩ : ∃ j : Nat, col = j := ⟨col.toNat, by have := hin.2.1; simp at this ⊢; omega⟩
  have HIN := Lib.hid h1
  have HQ := Lib.hid h2
  have H3 := Lib.hid h3
  have H4 := Lib.hid h4
  have S := Lib.hid hS
  have HT := Lib.hid hT
  have HK := Lib.hid hk
  have HR := Lib.hid hR
  clear ho h1 h2 h3 h4 hin hS hT hk hR
  by_cases hw0 : what = 0
  · subst hw0
    have HL := Lib.hid (show act17L ⟨0, n, y, j, pend, q⟩ cols L = eraseLine cols y j n q L by simp [act17L])
    have HN := Lib.hid (show n = 0 ∨ n = 1 ∨ n = 2 by have := H3.out; have := H4.out; simp at *; omega)
    go_enter Tryd.func14, Tryd.ntmps14
    go_upto_region 1 with (fail)
    refine at_objsC S.out.alloc1 (fun W hW => ?_)
    obtain ⟨hx, hf, hz, hr, hp⟩ := (hW.box (k := 0) rfl).act17
    have SW := Lib.hid hW
    clear hW
    go_wp2_with fail
    refine ((front_call SW.out (k := k + 1) HK.out (fun os1 h => eraseInLine_front n q HT.out h hcm HR.out hLm HIN.out HQ.out HN.out))).mono ?_
    rintro e w1 ⟨rfl, hS⟩
    have S1 := Lib.hid hS
    clear hS hx hf hz hr hp
    go_wp2_with fail
    go_ret
    exact ⟨rfl, by rw [HL.out]; exact S1.out.tail⟩
  have hb0 := beq_no hw0
  by_cases hw1 : what = 1
  · subst hw1
    have HL := Lib.hid (show act17L ⟨1, n, y, j, pend, q⟩ cols L = eraseScr cols y j n q L by simp [act17L])
    have HN := Lib.hid (show n = 0 ∨ n = 1 ∨ n = 2 by have := H3.out; have := H4.out; simp at *; omega)
    clear hw0 hb0
    go_enter Tryd.func14, Tryd.ntmps14
    go_upto_region 1 with (fail)
    refine at_objsC S.out.alloc1 (fun W hW => ?_)
    obtain ⟨hx, hf, hz, hr, hp⟩ := (hW.box (k := 0) rfl).act17
    have SW := Lib.hid hW
    clear hW
    go_wp2_with fail
    refine ((front_call SW.out (k := k + 1) HK.out (fun os1 h => eraseInScreen_front n q HT.out h hcm HR.out hLm HIN.out HQ.out HN.out))).mono ?_
    rintro e w1 ⟨rfl, hS⟩
    have S1 := Lib.hid hS
    clear hS hx hf hz hr hp
    go_wp2_with fail
    go_ret
    exact ⟨rfl, by rw [HL.out]; exact S1.out.tail⟩
  have hb1 := beq_no hw1
  have HL := Lib.hid (show act17L ⟨what, n, y, j, pend, q⟩ cols L = eraseCh cols y j n q L by simp [act17L, hw0, hw1])
  clear hw0 hw1
  go_enter Tryd.func14, Tryd.ntmps14
  go_upto_region 1 with (fail)
  refine at_objsC S.out.alloc1 (fun W hW => ?_)
  obtain ⟨hx, hf, hz, hr, hp⟩ := (hW.box (k := 0) rfl).act17
  have SW := Lib.hid hW
  clear hW
  go_wp2_with fail
  refine ((front_call SW.out (k := k + 1) HK.out (fun os1 h => eraseChars_front n q HT.out h hcm HR.out hLm HIN.out HQ.out H3.out))).mono ?_
  rintro e w1 ⟨rfl, hS⟩
  have S1 := Lib.hid hS
  clear hS hx hf hz hr hp
  go_wp2_with fail
  go_ret
  exact ⟨rfl, by rw [HL.out]; exact S1.out.tail⟩
set_option maxHeartbeats 2000000 in
/-- A call that is refused. -/
theorem l17call_no (a : Act17) (hT : Tabs w0) (hS : Objs w0 w os) (hk : os[k]? = some (.grid p 35 cols L)) (hc : 0 < cols) (hcm : cols ≤ 1000) (hL : 0 < L.length) (ho : act17ok a L.length cols = false) :
    Calls Tryd.prog 14 #[.pointer (some ⟨p, 0, none⟩), .agg (av17 a)] w fun e w' => e = .returned (.int .i64 2) ∧ Objs w0 w' os := by
  obtain ⟨what, n, row, col, pend, q⟩ := a
  have hno : ¬ (inG row col pend L.length cols = true ∧ q.ok = true ∧ 0 ≤ n ∧ (what = 0 ∨ what = 1 → n ≤ 2)) := fun h => by rw [act17ok_iff.2 h] at ho; cases ho
  have hck : checkE row col pend q L.length cols = 0 ↔ inG row col pend L.length cols = true ∧ q.ok = true := by unfold checkE; split <;> simp_all
  have S := Lib.hid hS
  have HT := Lib.hid hT
  have HK := Lib.hid hk
  clear ho hS hT hk
  by_cases hw0 : what = 0
  · subst hw0
    have HN := Lib.hid (show ¬ (checkE row col pend q L.length cols = 0 ∧ 0 ≤ n ∧ n ≤ 2) by rw [hck]; intro h; exact hno ⟨h.1.1, h.1.2, h.2.1, fun _ => h.2.2⟩)
    clear hno hck
    go_enter Tryd.func14, Tryd.ntmps14
    go_upto_region 1 with (fail)
    refine at_objsC S.out.alloc1 (fun W hW => ?_)
    obtain ⟨hx, hf, hz, hr, hp⟩ := (hW.box (k := 0) rfl).act17
    have SW := Lib.hid hW
    clear hW
    go_wp2_with fail
    refine (eraseInLine_no n q HT.out SW.out (k := k + 1) HK.out hc hcm hL HN.out).mono ?_
    rintro e w1 ⟨rfl, hS⟩
    have S1 := Lib.hid hS
    clear hS hx hf hz hr hp
    go_wp2_with fail
    go_ret
    exact ⟨rfl, S1.out.tail⟩
  have hb0 := beq_no hw0
  by_cases hw1 : what = 1
  · subst hw1
    have HN := Lib.hid (show ¬ (checkE row col pend q L.length cols = 0 ∧ 0 ≤ n ∧ n ≤ 2) by rw [hck]; intro h; exact hno ⟨h.1.1, h.1.2, h.2.1, fun _ => h.2.2⟩)
    clear hno hck hw0 hb0
    go_enter Tryd.func14, Tryd.ntmps14
    go_upto_region 1 with (fail)
    refine at_objsC S.out.alloc1 (fun W hW => ?_)
    obtain ⟨hx, hf, hz, hr, hp⟩ := (hW.box (k := 0) rfl).act17
    have SW := Lib.hid hW
    clear hW
    go_wp2_with fail
    refine (eraseInScreen_no n q HT.out SW.out (k := k + 1) HK.out hc hcm hL HN.out).mono ?_
    rintro e w1 ⟨rfl, hS⟩
    have S1 := Lib.hid hS
    clear hS hx hf hz hr hp
    go_wp2_with fail
    go_ret
    exact ⟨rfl, S1.out.tail⟩
  have hb1 := beq_no hw1
  have HN := Lib.hid (show ¬ (checkE row col pend q L.length cols = 0 ∧ 0 ≤ n) by rw [hck]; intro h; exact hno ⟨h.1.1, h.1.2, h.2, fun h2 => by omega⟩)
  clear hno hck hw0 hw1
  go_enter Tryd.func14, Tryd.ntmps14
  go_upto_region 1 with (fail)
  refine at_objsC S.out.alloc1 (fun W hW => ?_)
  obtain ⟨hx, hf, hz, hr, hp⟩ := (hW.box (k := 0) rfl).act17
  have SW := Lib.hid hW
  clear hW
  go_wp2_with fail
  refine (eraseChars_no n q HT.out SW.out (k := k + 1) HK.out hc hcm hL HN.out).mono ?_
  rintro e w1 ⟨rfl, hS⟩
  have S1 := Lib.hid hS
  clear hS hx hf hz hr hp
  go_wp2_with fail
  go_ret
  exact ⟨rfl, S1.out.tail⟩
set_option maxHeartbeats 2000000 in
/-- A call of a grid without rows. -/
theorem l17call_zero {gp : Value} (a : Act17) (hr : NoRows w gp) : Calls Tryd.prog 14 #[gp, .agg (av17 a)] w fun e w' => e = .returned (.int .i64 1) ∧ Below w.heap.size w w' := by
  obtain ⟨what, n, row, col, pend, q⟩ := a
  have HR := Lib.hid hr
  clear hr
  by_cases hw0 : what = 0
  · subst hw0
    go_enter Tryd.func14, Tryd.ntmps14
    go_upto_region 1 with (fail)
    refine at_objsC (objs_start w).alloc1 (fun W hW => ?_)
    obtain ⟨hx, hf, hz, hr, hp⟩ := (hW.box (k := 0) rfl).act17
    have SW := Lib.hid hW
    clear hW
    go_wp2_with fail
    refine (eraseInLine_zero n q (HR.out.bel SW.out.base)).mono ?_
    rintro e w1 ⟨rfl, hS⟩
    have S1 := Lib.hid (SW.out.base.trans (hS.mono SW.out.base.size))
    clear hS hx hf hz hr hp
    go_wp2_with fail
    go_ret
    exact ⟨rfl, S1.out⟩
  have hb0 := beq_no hw0
  by_cases hw1 : what = 1
  · subst hw1
    clear hw0 hb0
    go_enter Tryd.func14, Tryd.ntmps14
    go_upto_region 1 with (fail)
    refine at_objsC (objs_start w).alloc1 (fun W hW => ?_)
    obtain ⟨hx, hf, hz, hr, hp⟩ := (hW.box (k := 0) rfl).act17
    have SW := Lib.hid hW
    clear hW
    go_wp2_with fail
    refine (eraseInScreen_zero n q (HR.out.bel SW.out.base)).mono ?_
    rintro e w1 ⟨rfl, hS⟩
    have S1 := Lib.hid (SW.out.base.trans (hS.mono SW.out.base.size))
    clear hS hx hf hz hr hp
    go_wp2_with fail
    go_ret
    exact ⟨rfl, S1.out⟩
  have hb1 := beq_no hw1
  clear hw0 hw1
  go_enter Tryd.func14, Tryd.ntmps14
  go_upto_region 1 with (fail)
  refine at_objsC (objs_start w).alloc1 (fun W hW => ?_)
  obtain ⟨hx, hf, hz, hr, hp⟩ := (hW.box (k := 0) rfl).act17
  have SW := Lib.hid hW
  clear hW
  go_wp2_with fail
  refine (eraseChars_zero n q (HR.out.bel SW.out.base)).mono ?_
  rintro e w1 ⟨rfl, hS⟩
  have S1 := Lib.hid (SW.out.base.trans (hS.mono SW.out.base.size))
  clear hS hx hf hz hr hp
  go_wp2_with fail
  go_ret
  exact ⟨rfl, S1.out⟩
end
end Go.Proofs.YtjligfbaljnhnaaDoor

/-
  The law's parts of the chapter on erasing: in, small, does.
-/
set_option linter.unusedSimpArgs false
set_option linter.unusedVariables false
namespace Go.Proofs.YtjligfbaljnhnaaDoor
open Go.RowKit

theorem in_cases (row col : Int) (pend : Bool) (rows cols : Nat) :
    ((decide (0 ≤ row) = false) ∧ Hid (inG row col pend rows cols = false)) ∨ ((decide (0 ≤ row) = true ∧ decide (row < rows) = false) ∧ Hid (inG row col pend rows cols = false)) ∨
    ((decide (0 ≤ row) = true ∧ decide (row < rows) = true) ∧ decide (0 ≤ col) = false ∧ Hid (inG row col pend rows cols = false)) ∨ ((decide (0 ≤ row) = true ∧ decide (row < rows) = true) ∧ (decide (0 ≤ col) = true ∧ decide (col < cols) = false) ∧ Hid (inG row col pend rows cols = false)) ∨
    ((decide (0 ≤ row) = true ∧ decide (row < rows) = true) ∧ (decide (0 ≤ col) = true ∧ decide (col < cols) = true) ∧ Hid (pend = true) ∧ ((col == (cols : Int) - 1) = false) ∧ Hid (inG row col pend rows cols = false)) ∨
    ((decide (0 ≤ row) = true ∧ decide (row < rows) = true) ∧ (decide (0 ≤ col) = true ∧ decide (col < cols) = true) ∧ Hid (pend = true) ∧ ((col == (cols : Int) - 1) = true) ∧ Hid (inG row col pend rows cols = true)) ∨
    ((decide (0 ≤ row) = true ∧ decide (row < rows) = true) ∧ (decide (0 ≤ col) = true ∧ decide (col < cols) = true) ∧ Hid (pend = false) ∧ Hid (inG row col pend rows cols = true)) := by
  have no : ∀ h : ¬ ((0 ≤ row ∧ row < rows) ∧ (0 ≤ col ∧ col < cols) ∧ (pend = true → col = (cols : Int) - 1)), Hid (inG row col pend rows cols = false) := fun h => Lib.hid (decide_eq_false h)
  simp only [decide_eq_true_eq, decide_eq_false_iff_not]
  by_cases h1 : 0 ≤ row
  · by_cases h2 : row < rows
    · by_cases h3 : 0 ≤ col
      · by_cases h4 : col < cols
        · cases pend with
          | true =>
            by_cases h5 : col = (cols : Int) - 1
            · exact .inr (.inr (.inr (.inr (.inr (.inl ⟨⟨h1, h2⟩, ⟨h3, h4⟩, Lib.hid rfl, beq_yes h5, Lib.hid (decide_eq_true ⟨⟨h1, h2⟩, ⟨h3, h4⟩, fun _ => h5⟩)⟩)))))
            · exact .inr (.inr (.inr (.inr (.inl ⟨⟨h1, h2⟩, ⟨h3, h4⟩, Lib.hid rfl, beq_no h5, no (fun h => h5 (h.2.2 rfl))⟩))))
          | false => exact .inr (.inr (.inr (.inr (.inr (.inr ⟨⟨h1, h2⟩, ⟨h3, h4⟩, Lib.hid rfl, Lib.hid (decide_eq_true ⟨⟨h1, h2⟩, ⟨h3, h4⟩, fun h => by cases h⟩)⟩)))))
        · exact .inr (.inr (.inr (.inl ⟨⟨h1, h2⟩, ⟨h3, h4⟩, no (by omega)⟩)))
      · exact .inr (.inr (.inl ⟨⟨h1, h2⟩, h3, no (by omega)⟩))
    · exact .inr (.inl ⟨⟨h1, h2⟩, no (by omega)⟩)
  · exact .inl ⟨h1, no (by omega)⟩
section
variable {w0 w : World} {os : List Ob} {k p cols : Nat} {L : List Ln}
set_option maxHeartbeats 4000000 in
theorem l17in_any (row col : Int) (pend : Bool) (hS : Objs w0 w os) (hk : os[k]? = some (.grid p 48 cols L)) (hcm : cols ≤ 1000) :
    Calls Tryd.prog 27 #[.pointer (some ⟨p, 0, none⟩), .agg #[.int .i64 row, .int .i64 col, .bool pend]] w fun e w' => e = .returned (.bool (inG row col pend L.length cols)) ∧ Objs w0 w' os := by
  have S := Lib.hid hS
  have HK := Lib.hid hk
  clear hS hk
  rcases in_cases row col pend L.length cols with ⟨d1, HE⟩ | ⟨⟨d1, d2⟩, HE⟩ | ⟨⟨d1, d2⟩, d3, HE⟩ | ⟨⟨d1, d2⟩, ⟨d3, d4⟩, HE⟩ | ⟨⟨d1, d2⟩, ⟨d3, d4⟩, hp, d5, HE⟩ | ⟨⟨d1, d2⟩, ⟨d3, d4⟩, hp, d5, HE⟩ | ⟨⟨d1, d2⟩, ⟨d3, d4⟩, hp, HE⟩
  · go_enter Tryd.func27, Tryd.ntmps27
    go_upto_region 1 with (fail)
    refine at_objsC S.out.alloc1 (fun W hSW => ?_)
    obtain ⟨A, c, hB, hmx, -⟩ := hSW.gridRd (k := k + 1) HK.out
    obtain ⟨hx0, hf0, hz0⟩ := hB.facts
    obtain ⟨hx5, hf5, hz5⟩ := (hSW.box (k := 0) rfl).facts
    have SW := Lib.hid hSW
    clear hB hSW
    refine wp_region_below (by kernel_rfl) (by kernel_rfl) ?_
    repeat (go_big_quiet_step (fail))
    refine wpQuiet_nil ?_
    intro w2 hb2
    have S2 := Lib.hid (SW.out.bel hb2)
    clear hx0 hf0 hz0 hx5 hf5 hz5
    go_wp2_with fail
    go_ret
    exact ⟨by rw [HE.out]; rfl, S2.out.tail⟩
  · go_enter Tryd.func27, Tryd.ntmps27
    go_upto_region 1 with (fail)
    refine at_objsC S.out.alloc1 (fun W hSW => ?_)
    obtain ⟨A, c, hB, hmx, -⟩ := hSW.gridRd (k := k + 1) HK.out
    obtain ⟨hx0, hf0, hz0⟩ := hB.facts
    obtain ⟨hx5, hf5, hz5⟩ := (hSW.box (k := 0) rfl).facts
    have SW := Lib.hid hSW
    clear hB hSW
    refine wp_region_below (by kernel_rfl) (by kernel_rfl) ?_
    repeat (go_big_quiet_step (fail))
    refine wpQuiet_nil ?_
    intro w2 hb2
    have S2 := Lib.hid (SW.out.bel hb2)
    clear hx0 hf0 hz0 hx5 hf5 hz5
    go_wp2_with fail
    go_ret
    exact ⟨by rw [HE.out]; rfl, S2.out.tail⟩
  · go_enter Tryd.func27, Tryd.ntmps27
    go_upto_region 1 with (fail)
    refine at_objsC S.out.alloc1 (fun W hSW => ?_)
    obtain ⟨A, c, hB, hmx, -⟩ := hSW.gridRd (k := k + 1) HK.out
    obtain ⟨hx0, hf0, hz0⟩ := hB.facts
    obtain ⟨hx5, hf5, hz5⟩ := (hSW.box (k := 0) rfl).facts
    have SW := Lib.hid hSW
    clear hB hSW
    refine wp_region_below (by kernel_rfl) (by kernel_rfl) ?_
    repeat (go_big_quiet_step (fail))
    refine wpQuiet_nil ?_
    intro w2 hb2
    have S2 := Lib.hid (SW.out.bel hb2)
    clear hx0 hf0 hz0 hx5 hf5 hz5
    go_wp2_with fail
    go_ret
    exact ⟨by rw [HE.out]; rfl, S2.out.tail⟩
  · go_enter Tryd.func27, Tryd.ntmps27
    go_upto_region 1 with (fail)
    refine at_objsC S.out.alloc1 (fun W hSW => ?_)
    obtain ⟨A, c, hB, hmx, -⟩ := hSW.gridRd (k := k + 1) HK.out
    obtain ⟨hx0, hf0, hz0⟩ := hB.facts
    obtain ⟨hx5, hf5, hz5⟩ := (hSW.box (k := 0) rfl).facts
    have SW := Lib.hid hSW
    clear hB hSW
    refine wp_region_below (by kernel_rfl) (by kernel_rfl) ?_
    repeat (go_big_quiet_step (fail))
    refine wpQuiet_nil ?_
    intro w2 hb2
    have S2 := Lib.hid (SW.out.bel hb2)
    clear hx0 hf0 hz0 hx5 hf5 hz5
    go_wp2_with fail
    go_ret
    exact ⟨by rw [HE.out]; rfl, S2.out.tail⟩
  · have hp' := hp.out
    subst hp'
    go_enter Tryd.func27, Tryd.ntmps27
    go_upto_region 1 with (fail)
    refine at_objsC S.out.alloc1 (fun W hSW => ?_)
    obtain ⟨A, c, hB, hmx, -⟩ := hSW.gridRd (k := k + 1) HK.out
    obtain ⟨hx0, hf0, hz0⟩ := hB.facts
    obtain ⟨hx5, hf5, hz5⟩ := (hSW.box (k := 0) rfl).facts
    have SW := Lib.hid hSW
    clear hB hSW
    refine wp_region_below (by kernel_rfl) (by kernel_rfl) ?_
    repeat (go_big_quiet_step (fail))
    refine wpQuiet_nil ?_
    intro w2 hb2
    have S2 := Lib.hid (SW.out.bel hb2)
    clear hx0 hf0 hz0 hx5 hf5 hz5
    go_wp2_with fail
    go_ret
    exact ⟨by rw [HE.out]; rfl, S2.out.tail⟩
  · have hp' := hp.out
    subst hp'
    go_enter Tryd.func27, Tryd.ntmps27
    go_upto_region 1 with (fail)
    refine at_objsC S.out.alloc1 (fun W hSW => ?_)
    obtain ⟨A, c, hB, hmx, -⟩ := hSW.gridRd (k := k + 1) HK.out
    obtain ⟨hx0, hf0, hz0⟩ := hB.facts
    obtain ⟨hx5, hf5, hz5⟩ := (hSW.box (k := 0) rfl).facts
    have SW := Lib.hid hSW
    clear hB hSW
    refine wp_region_below (by kernel_rfl) (by kernel_rfl) ?_
    repeat (go_big_quiet_step (fail))
    refine wpQuiet_nil ?_
    intro w2 hb2
    have S2 := Lib.hid (SW.out.bel hb2)
    clear hx0 hf0 hz0 hx5 hf5 hz5
    go_wp2_with fail
    go_ret
    exact ⟨by rw [HE.out]; rfl, S2.out.tail⟩
  · have hp' := hp.out
    subst hp'
    go_enter Tryd.func27, Tryd.ntmps27
    go_upto_region 1 with (fail)
    refine at_objsC S.out.alloc1 (fun W hSW => ?_)
    obtain ⟨A, c, hB, hmx, -⟩ := hSW.gridRd (k := k + 1) HK.out
    obtain ⟨hx0, hf0, hz0⟩ := hB.facts
    obtain ⟨hx5, hf5, hz5⟩ := (hSW.box (k := 0) rfl).facts
    have SW := Lib.hid hSW
    clear hB hSW
    refine wp_region_below (by kernel_rfl) (by kernel_rfl) ?_
    repeat (go_big_quiet_step (fail))
    refine wpQuiet_nil ?_
    intro w2 hb2
    have S2 := Lib.hid (SW.out.bel hb2)
    clear hx0 hf0 hz0 hx5 hf5 hz5
    go_wp2_with fail
    go_ret
    exact ⟨by rw [HE.out]; rfl, S2.out.tail⟩
end
end Go.Proofs.YtjligfbaljnhnaaDoor
