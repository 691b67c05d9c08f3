/-
  Part 3 of the texts on which the proofs of this seat stand: each part says ahead of it what it shows.
-/
import Derived.Test.YtppijfjigcoifaaDoorR2
import Derived.Lib.MinMax
import Derived.Deep.DeepAppendRoom
import Derived.Laws.OwnMore
set_option linter.unusedSimpArgs false
set_option linter.unusedVariables false
namespace Go.Proofs.YtppijfjigcoifaaDoor
open Go.RowKit

def lineV : Value → Value
 | .agg a => a.getD 0 undef
 | v => v
def blkOf : Value → Nat
 | .slice (some ad) _ _ => ad.block
 | .pointer (some ad) => ad.block
 | _ => 0
set_option maxRecDepth 100000 in
set_option maxHeartbeats 4000000 in
theorem gridNew_yes (rows cols : Nat) (h1 : 1 ≤ rows) (h2 : rows ≤ 1000) (h3 : 1 ≤ cols) (h4 : cols ≤ 1000) (w0 w : World) (os : List Ob) (hS : Objs w0 w os) :
  Calls Tryd.prog 14 #[.int .i64 rows, .int .i64 cols] w fun e w' => ∃ p, e = .returned (.tuple #[.pointer (some ⟨p, 0, none⟩), .int .i64 0]) ∧ Objs w0 w' (.grid p 58 cols (List.replicate rows ((List.replicate cols (blank pen0)), false)) :: os) := by
 have S0 := Lib.hid hS
 clear hS
 go_enter Tryd.func14, Tryd.ntmps14
 go_wp2_with fail
 refine at_objsC S0.out.alloc1 (fun W S1 => ?_)
 generalize w.heap.size = p at S1 ⊢
 have S1 := Lib.hid S1
 clear S0
 go_loopw [25] (fun x wr => ∃ (k : Nat) (v : Value), k ≤ rows ∧ x = .int .i64 k ∧ Objs w0 wr (.lines v (List.replicate k ((List.replicate cols (blank pen0)), false)) :: .box p 58 #[.int .i64 ↑cols, v] :: os)) (fun x _ => rows - (intOf x).toNat)
 case atStart => exact ⟨0, _, Nat.zero_le _, rfl, S1.out.nilLines⟩
 case round =>
  obtain ⟨k, v, hk, rfl, hS⟩ := hrel
  have S := Lib.hid hS
  clear hS
  by_cases hlt : k < rows
  ·go_upto_region 6 with (fail)
   refine wp_region_stage (w0 := w0) (os := os) (by kernel_rfl) (by kernel_rfl) (by kernel_rfl) [(0, 7, [7], fun vs => .cells (lineV (vs 7)) (List.replicate cols (blank pen0))), (1, 8, [7, 8], fun vs => .box (blkOf (vs 8)) 39 #[lineV (vs 7), .bool false]), (2, 9, [9], fun vs => .lines (vs 9) (List.replicate (k + 1) ((List.replicate cols (blank pen0)), false))), (0, 9, [], fun vs => .none), (3, 12, [9], fun vs => .box p 58 #[.int .i64 ↑cols, vs 9])] [[], [], [], [], [3], [], [], [0], [1], [0, 1, 2], [], [], [3]] [.none, .none, .lines v (List.replicate k ((List.replicate cols (blank pen0)), false)), .box p 58 #[.int .i64 ↑cols, v]] (fun i u => match i with | 0 => u = pt p 0 | 1 => u = pt p 0 | 2 => u = pt p 0 | 3 => u = pt p 1 | 4 => u = (v : Value) | 5 => u = .int .i64 ↑cols | 6 => u = .agg (pv pen0) | 7 => ∃ x, u = .agg #[x, .bool false] | 8 => ∃ g, u = .slice (some ⟨g, 0, none⟩) 1 1 | 9 => ∃ A n c, u = .slice A n c | 10 => u = pt p 0 | 11 => u = pt p 1 | 12 => True | _ => True) (fun vs => [.none, .box (blkOf (vs 8)) 39 #[lineV (vs 7), .bool false], .lines (vs 9) (List.replicate (k + 1) ((List.replicate cols (blank pen0)), false)), .box p 58 #[.int .i64 ↑cols, vs 9]]) (by kernel_rfl) (fun vs => by rfl) S.out.pad.pad ?_ ?_
   ·apply sc
    ·intro a w' vs σ hS hl hs hk
     have f6 : a.tmps[6]?.getD undef = .pointer (some ⟨p, 0, none⟩) := sof hk
     exact rp (pt p 0) (by simp [execOp, Act.eval, f6, go_sem]) hl hs hS
    apply sc
    ·intro a w' vs σ hS hl hs hk
     have f6 : a.tmps[6]?.getD undef = .pointer (some ⟨p, 0, none⟩) := sof hk
     exact rp (pt p 0) (by simp [execOp, Act.eval, f6, go_sem]) hl hs hS
    apply sc
    ·intro a w' vs σ hS hl hs hk
     have f28 : a.tmps[28]?.getD undef = .pointer (some ⟨p, 0, none⟩) := sf hk 1
     exact rp (pt p 0) (by simp [execOp, Act.eval, f28, go_sem]) hl hs hS
    apply sc
    ·intro a w' vs σ hS hl hs hk
     have f29 : a.tmps[29]?.getD undef = .pointer (some ⟨p, 0, none⟩) := sf hk 2
     exact rp (pt p 1) (by simp [execOp, Act.eval, f29, go_sem]) hl hs hS
    apply sc
    ·intro a w' vs σ hS hl hs hk
     have f30 : a.tmps[30]?.getD undef = .pointer (some ⟨p, 1, none⟩) := sf hk 3
     have hx := (hS.box (sg (hs 3 (by decide)))).cell
     exact rp v (by simp [execOp, Act.eval, f30, go_sem, hx]) hl hs hS
    apply sc
    ·intro a w' vs σ hS hl hs hk
     have f1 : a.tmps[1]?.getD undef = .int .i64 ↑cols := sof hk
     exact rp (.int .i64 ↑cols) (by simp [execOp, Act.eval, f1, go_sem]) hl hs hS
    apply sc
    ·intro a w' vs σ hS hl hs hk
     exact rp (.agg (pv pen0)) (by simp [execOp, Act.eval, go_sem, pen0]) hl hs hS
    apply sc
    ·intro a w' vs σ hS hl hs hk
     have e32 : a.tmps.getD 32 undef = .int .i64 ↑cols := sv hk 5
     have e33 : a.tmps.getD 33 undef = .agg (pv pen0) := sv hk 6
     have h0 : σ[0]? = some .none := hs 0 (by decide)
     exact ro_call (f := 54) (wanted_none rfl) rfl (by simp only [List.map_toArray, List.map_cons, List.map_nil, Act.eval, e32, e33] <;> rfl) (fun _ _ => by kernel_rfl) ((gridblanks_any cols (by omega) pen0 w0 w' _ hS).mono fun e w2 ⟨x, h1, h2⟩ => ⟨_, h1, sp_set 0 (.cells x (List.replicate cols (blank pen0))) (by kernel_rfl) (by simp) (by decide) hl hs (by rfl) (h2.place (sg h0)) ⟨x, rfl⟩, trivial⟩)
    apply sc
    ·intro a w' vs σ hS hl hs hk
     have e34 : a.tmps.getD 34 undef = vs 7 := sk_val hk 7 (by kernel_rfl) rfl rfl
     have p34 : (fun u : Value => ∃ x, u = .agg #[x, .bool false]) (vs 7) := (hk.1 7 (by kernel_rfl)).1
     obtain ⟨x, hx⟩ := p34
     have e9 := e34.trans hx
     have f9 := gd e9
     have h1 : σ[1]? = some .none := hs 1 (by decide)
     exact rs_run (wanted_none rfl) (exec_bsl rfl (by simp [Act.eval, e9, f9]) (run_bsl x false w')) (sp_set 1 (.box w'.heap.size 39 #[x, .bool false]) (by kernel_rfl) (by simp) (by decide) hl hs (by show Ob.box (blkOf (.slice (some ⟨w'.heap.size, 0, none⟩) 1 1)) 39 #[lineV (vs 7), .bool false] = _; rw [hx]; rfl) (hS.alloc1.place (sg h1)) ⟨_, rfl⟩)
    apply sc
    ·intro a w' vs σ hS hl hs hk
     have e31 : a.tmps.getD 31 undef = (v : Value) := sv hk 4
     have e35 : a.tmps.getD 35 undef = vs 8 := sk_val hk 8 (by kernel_rfl) rfl rfl
     have p35 : (fun u : Value => ∃ g, u = .slice (some ⟨g, 0, none⟩) 1 1) (vs 8) := (hk.1 8 (by kernel_rfl)).1
     have h2 : σ[2]? = some (.lines v (List.replicate k ((List.replicate cols (blank pen0)), false))) := hs 2 (by decide)
     have h0 : σ[0]? = some (.cells (lineV (vs 7)) (List.replicate cols (blank pen0))) := hs 0 (by decide)
     have h1 : σ[1]? = some (.box (blkOf (vs 8)) 39 #[lineV (vs 7), .bool false]) := hs 1 (by decide)
     obtain ⟨g8, hg8⟩ := p35
     rw [hg8, show blkOf (.slice (some ⟨g8, 0, none⟩) 1 1) = g8 from rfl] at h1
     obtain ⟨v9, w9, hr, hS2, A9, c9, hv9⟩ := run_appL hS (k := 2) (j := 0) (ad := ⟨g8, 0, none⟩) (c := 1) (s := false) (sg h2) (sg h0) (by decide) (by rw [(hS.box (sg h1)).cell]; rfl) (by rw [add_at, (hS.box (sg h1)).cell]; rfl) (by simp; omega) 30
     rw [← List.replicate_succ'] at hS2
     exact rs_run (wanted_none rfl) (exec_app rfl (by simp only [Act.eval]; exact e31) (by simp only [Act.eval]; exact e35.trans hg8) hr) (sp_set2 2 0 (.lines v9 (List.replicate (k + 1) ((List.replicate cols (blank pen0)), false))) .none (by decide) (by kernel_rfl) (by simp) (by simp) (by decide) (by decide) hl hs (by rfl) (by rfl) hS2 ⟨A9, _, c9, hv9⟩)
    apply sc
    ·intro a w' vs σ hS hl hs hk
     have f27 : a.tmps[27]?.getD undef = .pointer (some ⟨p, 0, none⟩) := sf hk 0
     exact rp (pt p 0) (by simp [execOp, Act.eval, f27, go_sem]) hl hs hS
    apply sc
    ·intro a w' vs σ hS hl hs hk
     have f37 : a.tmps[37]?.getD undef = .pointer (some ⟨p, 0, none⟩) := sf hk 10
     exact rp (pt p 1) (by simp [execOp, Act.eval, f37, go_sem]) hl hs hS
    apply sc
    ·intro a w' vs σ hS hl hs hk
     have f38 : a.tmps[38]?.getD undef = .pointer (some ⟨p, 1, none⟩) := sf hk 11
     have e36 : a.tmps.getD 36 undef = vs 9 := sk_val hk 9 (by kernel_rfl) rfl rfl
     have p36 : (fun u : Value => ∃ A n c, u = .slice A n c) (vs 9) := (hk.1 9 (by kernel_rfl)).1
     have f36 := gd e36
     have h3 : σ[3]? = some (.box p 58 #[.int .i64 ↑cols, v]) := hs 3 (by decide)
     obtain ⟨hx, hf, hz⟩ := (hS.box (sg h3)).facts
     obtain ⟨A9, n9, c9, q9⟩ := p36
     exact rstep_store (w2 := w'.setCell ⟨p, 1, none⟩ (.slice A9 n9 c9)) (wanted_none rfl) rfl (by simp [execOp, Act.eval, f38, e36, f36, q9, hx, hf, hz, go_sem]) (sp_set 3 (.box p 58 #[.int .i64 ↑cols, vs 9]) (by kernel_rfl) (by simp) (by decide) hl hs (by rfl) (by rw [q9]; exact hS.setBox 3 (sg h3)) trivial) trivial
    exact SSteps.nil
   ·intro vs w' hS hv
    have q0 : vs 0 = _ := hv 0 (by decide)
    have q1 : vs 1 = _ := hv 1 (by decide)
    have q2 : vs 2 = _ := hv 2 (by decide)
    have q3 : vs 3 = _ := hv 3 (by decide)
    have q4 : vs 4 = _ := hv 4 (by decide)
    have q5 : vs 5 = _ := hv 5 (by decide)
    have q6 : vs 6 = _ := hv 6 (by decide)
    have q10 : vs 10 = _ := hv 10 (by decide)
    have q11 : vs 11 = _ := hv 11 (by decide)
    have S2 := Lib.hid hS
    simp only [putL, Act.put, Nat.zero_add, Nat.reduceAdd, List.setIfInBounds_toArray, List.set_cons_succ, List.set_cons_zero, q0, q1, q2, q3, q4, q5, q6, q10, q11]
    clear hS hv q0 q1 q2 q3 q4 q5 q6 q10 q11
    go_wp2_with fail
    go_roundw
    case rel => exact ⟨k + 1, vs 9, by omega, by go_num, (S2.out.del 0).del 0⟩
    case measure => simp [intOf]; omega
  ·obtain rfl : k = rows := by omega
   have SG := Lib.hid (S.out.closeGrid (k := 0) rfl)
   clear S S1
   go_wp2_with fail
   go_ret2
   exact ⟨p, rfl, SG.out⟩
set_option maxRecDepth 100000 in
set_option maxHeartbeats 4000000 in
theorem r14New_any (rows cols : Nat) (h2 : rows ≤ 1000) (h4 : cols ≤ 1000) (w0 w : World) (os : List Ob) (hS : Objs w0 w os) :
  Calls Tryd.prog 21 #[.int .i64 rows, .int .i64 cols] w fun e w' => ∃ p, e = .returned (.pointer (some ⟨p, 0, none⟩)) ∧ Objs w0 w' (.grid p 33 cols (List.replicate rows ((List.replicate cols (blank pen0)), false)) :: os) := by
 have S0 := Lib.hid hS
 clear hS
 go_enter Tryd.func21, Tryd.ntmps21
 go_wp2_with fail
 refine at_objsC S0.out.alloc1 (fun W S1 => ?_)
 generalize w.heap.size = p at S1 ⊢
 have S1 := Lib.hid S1
 clear S0
 go_loopw [6] (fun x wr => ∃ (k : Nat) (v : Value), k ≤ rows ∧ x = .int .i64 k ∧ Objs w0 wr (.lines v (List.replicate k ((List.replicate cols (blank pen0)), false)) :: .box p 33 #[.int .i64 ↑cols, v] :: os)) (fun x _ => rows - (intOf x).toNat)
 case atStart => exact ⟨0, _, Nat.zero_le _, rfl, S1.out.nilLines⟩
 case round =>
  obtain ⟨k, v, hk, rfl, hS⟩ := hrel
  have S := Lib.hid hS
  clear hS
  by_cases hlt : k < rows
  ·go_upto_region 5 with (fail)
   refine wp_region_stage (w0 := w0) (os := os) (by kernel_rfl) (by kernel_rfl) (by kernel_rfl) [(0, 7, [7], fun vs => .cells (lineV (vs 7)) (List.replicate cols (blank pen0))), (1, 8, [7, 8], fun vs => .box (blkOf (vs 8)) 39 #[lineV (vs 7), .bool false]), (2, 9, [9], fun vs => .lines (vs 9) (List.replicate (k + 1) ((List.replicate cols (blank pen0)), false))), (0, 9, [], fun vs => .none), (3, 12, [9], fun vs => .box p 33 #[.int .i64 ↑cols, vs 9])] [[], [], [], [], [3], [], [], [0], [1], [0, 1, 2], [], [], [3]] [.none, .none, .lines v (List.replicate k ((List.replicate cols (blank pen0)), false)), .box p 33 #[.int .i64 ↑cols, v]] (fun i u => match i with | 0 => u = pt p 0 | 1 => u = pt p 0 | 2 => u = pt p 0 | 3 => u = pt p 1 | 4 => u = (v : Value) | 5 => u = .int .i64 ↑cols | 6 => u = .agg (pv pen0) | 7 => ∃ x, u = .agg #[x, .bool false] | 8 => ∃ g, u = .slice (some ⟨g, 0, none⟩) 1 1 | 9 => ∃ A n c, u = .slice A n c | 10 => u = pt p 0 | 11 => u = pt p 1 | 12 => True | _ => True) (fun vs => [.none, .box (blkOf (vs 8)) 39 #[lineV (vs 7), .bool false], .lines (vs 9) (List.replicate (k + 1) ((List.replicate cols (blank pen0)), false)), .box p 33 #[.int .i64 ↑cols, vs 9]]) (by kernel_rfl) (fun vs => by rfl) S.out.pad.pad ?_ ?_
   ·apply sc
    ·intro a w' vs σ hS hl hs hk
     have f5 : a.tmps[5]?.getD undef = .pointer (some ⟨p, 0, none⟩) := sof hk
     exact rp (pt p 0) (by simp [execOp, Act.eval, f5, go_sem]) hl hs hS
    apply sc
    ·intro a w' vs σ hS hl hs hk
     have f5 : a.tmps[5]?.getD undef = .pointer (some ⟨p, 0, none⟩) := sof hk
     exact rp (pt p 0) (by simp [execOp, Act.eval, f5, go_sem]) hl hs hS
    apply sc
    ·intro a w' vs σ hS hl hs hk
     have f16 : a.tmps[16]?.getD undef = .pointer (some ⟨p, 0, none⟩) := sf hk 1
     exact rp (pt p 0) (by simp [execOp, Act.eval, f16, go_sem]) hl hs hS
    apply sc
    ·intro a w' vs σ hS hl hs hk
     have f17 : a.tmps[17]?.getD undef = .pointer (some ⟨p, 0, none⟩) := sf hk 2
     exact rp (pt p 1) (by simp [execOp, Act.eval, f17, go_sem]) hl hs hS
    apply sc
    ·intro a w' vs σ hS hl hs hk
     have f18 : a.tmps[18]?.getD undef = .pointer (some ⟨p, 1, none⟩) := sf hk 3
     have hx := (hS.box (sg (hs 3 (by decide)))).cell
     exact rp v (by simp [execOp, Act.eval, f18, go_sem, hx]) hl hs hS
    apply sc
    ·intro a w' vs σ hS hl hs hk
     have f1 : a.tmps[1]?.getD undef = .int .i64 ↑cols := sof hk
     exact rp (.int .i64 ↑cols) (by simp [execOp, Act.eval, f1, go_sem]) hl hs hS
    apply sc
    ·intro a w' vs σ hS hl hs hk
     exact rp (.agg (pv pen0)) (by simp [execOp, Act.eval, go_sem, pen0]) hl hs hS
    apply sc
    ·intro a w' vs σ hS hl hs hk
     have e20 : a.tmps.getD 20 undef = .int .i64 ↑cols := sv hk 5
     have e21 : a.tmps.getD 21 undef = .agg (pv pen0) := sv hk 6
     have h0 : σ[0]? = some .none := hs 0 (by decide)
     exact ro_call (f := 59) (wanted_none rfl) rfl (by simp only [List.map_toArray, List.map_cons, List.map_nil, Act.eval, e20, e21] <;> rfl) (fun _ _ => by kernel_rfl) ((r14Blanks_any cols (by omega) pen0 w0 w' _ hS).mono fun e w2 ⟨x, h1, h2⟩ => ⟨_, h1, sp_set 0 (.cells x (List.replicate cols (blank pen0))) (by kernel_rfl) (by simp) (by decide) hl hs (by rfl) (h2.place (sg h0)) ⟨x, rfl⟩, trivial⟩)
    apply sc
    ·intro a w' vs σ hS hl hs hk
     have e22 : a.tmps.getD 22 undef = vs 7 := sk_val hk 7 (by kernel_rfl) rfl rfl
     have p22 : (fun u : Value => ∃ x, u = .agg #[x, .bool false]) (vs 7) := (hk.1 7 (by kernel_rfl)).1
     obtain ⟨x, hx⟩ := p22
     have e9 := e22.trans hx
     have f9 := gd e9
     have h1 : σ[1]? = some .none := hs 1 (by decide)
     exact rs_run (wanted_none rfl) (exec_bsl rfl (by simp [Act.eval, e9, f9]) (run_bsl x false w')) (sp_set 1 (.box w'.heap.size 39 #[x, .bool false]) (by kernel_rfl) (by simp) (by decide) hl hs (by show Ob.box (blkOf (.slice (some ⟨w'.heap.size, 0, none⟩) 1 1)) 39 #[lineV (vs 7), .bool false] = _; rw [hx]; rfl) (hS.alloc1.place (sg h1)) ⟨_, rfl⟩)
    apply sc
    ·intro a w' vs σ hS hl hs hk
     have e19 : a.tmps.getD 19 undef = (v : Value) := sv hk 4
     have e23 : a.tmps.getD 23 undef = vs 8 := sk_val hk 8 (by kernel_rfl) rfl rfl
     have p23 : (fun u : Value => ∃ g, u = .slice (some ⟨g, 0, none⟩) 1 1) (vs 8) := (hk.1 8 (by kernel_rfl)).1
     have h2 : σ[2]? = some (.lines v (List.replicate k ((List.replicate cols (blank pen0)), false))) := hs 2 (by decide)
     have h0 : σ[0]? = some (.cells (lineV (vs 7)) (List.replicate cols (blank pen0))) := hs 0 (by decide)
     have h1 : σ[1]? = some (.box (blkOf (vs 8)) 39 #[lineV (vs 7), .bool false]) := hs 1 (by decide)
     obtain ⟨g8, hg8⟩ := p23
     rw [hg8, show blkOf (.slice (some ⟨g8, 0, none⟩) 1 1) = g8 from rfl] at h1
     obtain ⟨v9, w9, hr, hS2, A9, c9, hv9⟩ := run_appL hS (k := 2) (j := 0) (ad := ⟨g8, 0, none⟩) (c := 1) (s := false) (sg h2) (sg h0) (by decide) (by rw [(hS.box (sg h1)).cell]; rfl) (by rw [add_at, (hS.box (sg h1)).cell]; rfl) (by simp; omega) 30
     rw [← List.replicate_succ'] at hS2
     exact rs_run (wanted_none rfl) (exec_app rfl (by simp only [Act.eval]; exact e19) (by simp only [Act.eval]; exact e23.trans hg8) hr) (sp_set2 2 0 (.lines v9 (List.replicate (k + 1) ((List.replicate cols (blank pen0)), false))) .none (by decide) (by kernel_rfl) (by simp) (by simp) (by decide) (by decide) hl hs (by rfl) (by rfl) hS2 ⟨A9, _, c9, hv9⟩)
    apply sc
    ·intro a w' vs σ hS hl hs hk
     have f15 : a.tmps[15]?.getD undef = .pointer (some ⟨p, 0, none⟩) := sf hk 0
     exact rp (pt p 0) (by simp [execOp, Act.eval, f15, go_sem]) hl hs hS
    apply sc
    ·intro a w' vs σ hS hl hs hk
     have f25 : a.tmps[25]?.getD undef = .pointer (some ⟨p, 0, none⟩) := sf hk 10
     exact rp (pt p 1) (by simp [execOp, Act.eval, f25, go_sem]) hl hs hS
    apply sc
    ·intro a w' vs σ hS hl hs hk
     have f26 : a.tmps[26]?.getD undef = .pointer (some ⟨p, 1, none⟩) := sf hk 11
     have e24 : a.tmps.getD 24 undef = vs 9 := sk_val hk 9 (by kernel_rfl) rfl rfl
     have p24 : (fun u : Value => ∃ A n c, u = .slice A n c) (vs 9) := (hk.1 9 (by kernel_rfl)).1
     have f24 := gd e24
     have h3 : σ[3]? = some (.box p 33 #[.int .i64 ↑cols, v]) := hs 3 (by decide)
     obtain ⟨hx, hf, hz⟩ := (hS.box (sg h3)).facts
     obtain ⟨A9, n9, c9, q9⟩ := p24
     exact rstep_store (w2 := w'.setCell ⟨p, 1, none⟩ (.slice A9 n9 c9)) (wanted_none rfl) rfl (by simp [execOp, Act.eval, f26, e24, f24, q9, hx, hf, hz, go_sem]) (sp_set 3 (.box p 33 #[.int .i64 ↑cols, vs 9]) (by kernel_rfl) (by simp) (by decide) hl hs (by rfl) (by rw [q9]; exact hS.setBox 3 (sg h3)) trivial) trivial
    exact SSteps.nil
   ·intro vs w' hS hv
    have q0 : vs 0 = _ := hv 0 (by decide)
    have q1 : vs 1 = _ := hv 1 (by decide)
    have q2 : vs 2 = _ := hv 2 (by decide)
    have q3 : vs 3 = _ := hv 3 (by decide)
    have q4 : vs 4 = _ := hv 4 (by decide)
    have q5 : vs 5 = _ := hv 5 (by decide)
    have q6 : vs 6 = _ := hv 6 (by decide)
    have q10 : vs 10 = _ := hv 10 (by decide)
    have q11 : vs 11 = _ := hv 11 (by decide)
    have S2 := Lib.hid hS
    simp only [putL, Act.put, Nat.zero_add, Nat.reduceAdd, List.setIfInBounds_toArray, List.set_cons_succ, List.set_cons_zero, q0, q1, q2, q3, q4, q5, q6, q10, q11]
    clear hS hv q0 q1 q2 q3 q4 q5 q6 q10 q11
    go_wp2_with fail
    go_roundw
    case rel => exact ⟨k + 1, vs 9, by omega, by go_num, (S2.out.del 0).del 0⟩
    case measure => simp [intOf]; omega
  ·obtain rfl : k = rows := by omega
   have SG := Lib.hid (S.out.closeGrid (k := 0) rfl)
   clear S S1
   go_wp2_with fail
   go_ret
   exact ⟨p, rfl, SG.out⟩
end Go.Proofs.YtppijfjigcoifaaDoor

namespace Go.Proofs.YtppijfjigcoifaaDoor
open Go.RowKit

section
variable {w0 w : World} {os : List Ob} {p cols : Nat} {L : List Ln}
end
end Go.Proofs.YtppijfjigcoifaaDoor

namespace Go.Proofs.YtppijfjigcoifaaDoor
open Go.RowKit

section
variable {w0 w : World} {os : List Ob} {p cols : Nat} {L : List Ln}
end
end Go.Proofs.YtppijfjigcoifaaDoor

namespace Go.Proofs.YtppijfjigcoifaaDoor
open Go.RowKit

theorem tt_of {f : FuncId} {args : Array Value} {w : World} {b : Bool} (hc : Calls Tryd.prog f args w fun e w' => e = .returned (.bool b) ∧ Below w.heap.size w w') (h : b = true) : Calls Tryd.prog f args w fun e w' => e = .returned (.bool true) ∧ Below w.heap.size w w' := h ▸ hc
theorem ff_of {f : FuncId} {args : Array Value} {w : World} {b : Bool} (hc : Calls Tryd.prog f args w fun e w' => e = .returned (.bool b) ∧ Below w.heap.size w w') (h : b = false) : Calls Tryd.prog f args w fun e w' => e = .returned (.bool false) ∧ Below w.heap.size w w' := h ▸ hc
theorem upto_eqG {α : Type} {xs ys : List α} (hl : xs.length = ys.length) (h : ∀ k, k < xs.length → xs[k]? = ys[k]?) : xs = ys := by
 apply List.ext_getElem?
 intro k
 rcases Nat.lt_or_ge k xs.length with hk | hk
 ·exact h k hk
 ·rw [List.getElem?_eq_none hk, List.getElem?_eq_none (by omega)]
set_option maxHeartbeats 2000000 in
theorem r14SameLine_any (A B : Option Addr) (ca cb : Nat) (xs ys : List Cell) (s t : Bool) (w : World) (ha : RdC w A ca xs) (hb : RdC w B cb ys) (hn : xs.length ≤ 1000000) (hm : ys.length ≤ 1000000) :
  Calls Tryd.prog 41 #[.agg #[.slice A xs.length ca, .bool s], .agg #[.slice B ys.length cb, .bool t]] w fun e w' => e = .returned (.bool (eqL xs s ys t)) ∧ Below w.heap.size w w' := by
 have HA := Lib.hid ha
 have HB := Lib.hid hb
 clear ha hb
 have HD := Lib.hid (lineEq_dec xs ys s t)
 by_cases hst : s = t
 case neg =>
  have h' : (s == t) = false := by simpa using hst
  go_enter Tryd.func41, Tryd.ntmps41
  go_wp2_with fail
  go_ret
  exact ⟨by rw [HD.out]; simp [hst], (belA _ _).trans ((belA _ _).mono (by simp))⟩
 subst hst
 by_cases hl : xs.length = ys.length
 case neg =>
  have HE := Lib.hid (show decide (xs = ys) = false by simp; intro h; exact hl (by rw [h]))
  have hl' : ((xs.length : Int) == (ys.length : Int)) = false := by rw [beq_eq_false_iff_ne]; omega
  clear hl
  go_enter Tryd.func41, Tryd.ntmps41
  go_wp2_with fail
  go_ret
  exact ⟨by rw [HD.out, HE.out]; simp, (belA _ _).trans ((belA _ _).mono (by simp))⟩
 have hl' : ((xs.length : Int) == (ys.length : Int)) = true := by simp; omega
 have HL := Lib.hid hl
 clear hl
 go_enter Tryd.func41, Tryd.ntmps41
 go_wp2_with fail
 go_loopw [5] (fun i wr => ∃ k : Nat, k ≤ xs.length ∧ i = .int .i64 k ∧ (∀ j, j < k → xs[j]? = ys[j]?) ∧ Blk wr w.heap.size 39 #[.slice A xs.length ca, .bool s] ∧ Blk wr (w.heap.size + 1) 39 #[.slice B ys.length cb, .bool s] ∧ Below w.heap.size w wr) (fun i _ => xs.length - (intOf i).toNat)
 case atStart => exact ⟨0, by omega, rfl, fun j hj => by omega, (Blk.new _ _ _).alloc _, by have := Blk.new (w.alloc (.cells #[.slice A xs.length ca, .bool s] 39)) 39 #[.slice B ys.length cb, .bool s]; simpa using this, (belA _ _).trans ((belA _ _).mono (by simp))⟩
 case round =>
  obtain ⟨k, hk, rfl, hj, hk1, hk2, hb⟩ := hrel
  have HJ := Lib.hid hj
  have HW := Lib.hid hb
  have K1 := Lib.hid hk1
  have K2 := Lib.hid hk2
  obtain ⟨hx1, hf1, hz1⟩ := hk1.facts
  obtain ⟨hx2, hf2, hz2⟩ := hk2.facts
  clear hj hb hk1 hk2
  by_cases hlt : k < xs.length
  ·have hlt2 : k < ys.length := by have := HL.out; omega
   obtain ⟨b1, o1, rfl, hz3, hr1⟩ := (HA.out.bel HW.out).at_ hlt
   obtain ⟨b2, o2, rfl, hz4, hr2⟩ := (HB.out.bel HW.out).at_ hlt2
   have hc1 := elem_cell hr1 hlt
   have hc2 := elem_cell hr2 hlt2
   clear hr1 hr2
   by_cases he : xs[k] = ys[k]
   ·have he' : decide (xs[k] = ys[k]) = true := by simpa using he
    have HE := Lib.hid he
    clear he
    go_wp2_with fail
    refine wp_region_below (by kernel_rfl) (by kernel_rfl) ?_
    repeat (go_big_quiet_step (fail))
    refine wpQuiet_nil ?_
    intro w2 hb2
    have K12 := Lib.hid (K1.out.bel hb2)
    have K22 := Lib.hid (K2.out.bel hb2)
    clear hx1 hf1 hz1 hx2 hf2 hz2 hc1 hc2
    go_wp2_with fail
    go_roundw
    case rel => exact ⟨k + 1, by omega, by go_num, upto_succ HJ.out (by rw [List.getElem?_eq_getElem hlt, List.getElem?_eq_getElem hlt2, HE.out]), K12.out, K22.out, HW.out.trans (hb2.mono HW.out.size)⟩
    case measure => simp [intOf]; omega
   ·have he' : decide (xs[k] = ys[k]) = false := by simpa using he
    have HE := Lib.hid (show decide (xs = ys) = false by simp; rintro rfl; exact he rfl)
    clear he
    go_wp2_with fail
    refine wp_region_below (by kernel_rfl) (by kernel_rfl) ?_
    repeat (go_big_quiet_step (fail))
    refine wpQuiet_nil ?_
    intro w2 hb2
    clear hx1 hf1 hz1 hx2 hf2 hz2 hc1 hc2
    go_wp2_with fail
    go_ret
    exact ⟨by rw [HD.out, HE.out]; simp, HW.out.trans (hb2.mono HW.out.size)⟩
  ·have HE := Lib.hid (show decide (xs = ys) = true by simp; exact upto_eq HL.out (fun j hj => HJ.out j (by omega)))
   go_wp2_with fail
   go_ret
   exact ⟨by rw [HD.out, HE.out]; simp, HW.out⟩
theorem eqL_line (a b : Ln) : eqL a.1 a.2 b.1 b.2 = decide (a = b) := rfl
set_option maxHeartbeats 2000000 in
theorem r14SameLines_any (A B : Option Addr) (ca cb : Nat) (xs ys : List Ln) (w : World) (ha : RdL w A ca xs) (hb : RdL w B cb ys) (hn : xs.length ≤ 1000000) (hm : ys.length ≤ 1000000) (hx : ∀ l ∈ xs, l.1.length ≤ 1000000) (hy : ∀ l ∈ ys, l.1.length ≤ 1000000) :
  Calls Tryd.prog 19 #[.slice A xs.length ca, .slice B ys.length cb] w fun e w' => e = .returned (.bool (decide (xs = ys))) ∧ Below w.heap.size w w' := by
 have HA := Lib.hid ha
 have HB := Lib.hid hb
 have HX := Lib.hid hx
 have HY := Lib.hid hy
 clear ha hb hx hy
 by_cases hl : xs.length = ys.length
 case neg =>
  have HE := Lib.hid (show decide (xs = ys) = false by simp; intro h; exact hl (by rw [h]))
  have hl' : ((xs.length : Int) == (ys.length : Int)) = false := by rw [beq_eq_false_iff_ne]; omega
  clear hl
  go_enter Tryd.func19, Tryd.ntmps19
  go_wp2_with fail
  go_ret
  exact ⟨by rw [HE.out]; rfl, Below.refl _ _⟩
 have hl' : ((xs.length : Int) == (ys.length : Int)) = true := by simp; omega
 have HL := Lib.hid hl
 clear hl
 go_enter Tryd.func19, Tryd.ntmps19
 go_wp2_with fail
 go_loopw [5] (fun i wr => ∃ k : Nat, k ≤ xs.length ∧ i = .int .i64 k ∧ (∀ j, j < k → xs[j]? = ys[j]?) ∧ Below w.heap.size w wr) (fun i _ => xs.length - (intOf i).toNat)
 case atStart => exact ⟨0, by omega, rfl, fun j hj => by omega, Below.refl _ _⟩
 case round =>
  obtain ⟨k, hk, rfl, hj, hb⟩ := hrel
  have HJ := Lib.hid hj
  have HW := Lib.hid hb
  clear hj hb
  by_cases hlt : k < xs.length
  ·have hlt2 : k < ys.length := by have := HL.out; omega
   obtain ⟨b1, o1, A1, c1, rfl, hz1, hc1, hc2, hr1⟩ := (HA.out.bel HW.out).at_ (show xs[k]? = some xs[k] by simp [hlt])
   obtain ⟨b2, o2, A2, c2, rfl, hz2, hc3, hc4, hr2⟩ := (HB.out.bel HW.out).at_ (show ys[k]? = some ys[k] by simp [hlt2])
   have HR1 := Lib.hid hr1
   have HR2 := Lib.hid hr2
   clear hr1 hr2
   have HN1 := Lib.hid (HX.out _ (List.getElem_mem hlt))
   have HN2 := Lib.hid (HY.out _ (List.getElem_mem hlt2))
   by_cases he : xs[k] = ys[k]
   ·have HE := Lib.hid he
    have HQ := Lib.hid (show eqL xs[k].1 xs[k].2 ys[k].1 ys[k].2 = true by rw [eqL_line]; simpa using he)
    clear he
    go_wp2_with fail
    refine wp_region_below (by kernel_rfl) (by kernel_rfl) ?_
    repeat (go_big_quiet_step ((go_at_call 41; exact quiet_below (tt_of (r14SameLine_any A1 A2 c1 c2 xs[k].1 ys[k].1 xs[k].2 ys[k].2 _ (HR1.out.bel (below_plus _ _)) (HR2.out.bel (below_plus _ _)) HN1.out HN2.out) HQ.out))))
    refine wpQuiet_nil ?_
    intro w2 hb2
    clear hc1 hc2 hc3 hc4
    go_wp2_with fail
    go_roundw
    case rel => exact ⟨k + 1, by omega, by go_num, upto_succ HJ.out (by rw [List.getElem?_eq_getElem hlt, List.getElem?_eq_getElem hlt2, HE.out]), HW.out.trans (hb2.mono HW.out.size)⟩
    case measure => simp [intOf]; omega
   ·have HE := Lib.hid (show decide (xs = ys) = false by simp; rintro rfl; exact he rfl)
    have HQ := Lib.hid (show eqL xs[k].1 xs[k].2 ys[k].1 ys[k].2 = false by rw [eqL_line]; simpa using he)
    clear he
    go_wp2_with fail
    refine wp_region_below (by kernel_rfl) (by kernel_rfl) ?_
    repeat (go_big_quiet_step ((go_at_call 41; exact quiet_below (ff_of (r14SameLine_any A1 A2 c1 c2 xs[k].1 ys[k].1 xs[k].2 ys[k].2 _ (HR1.out.bel (below_plus _ _)) (HR2.out.bel (below_plus _ _)) HN1.out HN2.out) HQ.out))))
    refine wpQuiet_nil ?_
    intro w2 hb2
    clear hc1 hc2 hc3 hc4
    go_wp2_with fail
    go_ret
    exact ⟨by rw [HE.out]; rfl, HW.out.trans (hb2.mono HW.out.size)⟩
  ·have HE := Lib.hid (show decide (xs = ys) = true by simp; exact upto_eqG HL.out (fun j hj => HJ.out j (by omega)))
   go_wp2_with fail
   go_ret
   exact ⟨by rw [HE.out]; rfl, HW.out⟩
end Go.Proofs.YtppijfjigcoifaaDoor

namespace Go.Proofs.YtppijfjigcoifaaDoor
open Go.RowKit

end Go.Proofs.YtppijfjigcoifaaDoor

namespace Go.Proofs.YtppijfjigcoifaaDoor
open Go.RowKit

section
variable {w0 w : World} {os : List Ob}
end
end Go.Proofs.YtppijfjigcoifaaDoor

namespace Go.Proofs.YtppijfjigcoifaaDoor
open Go.RowKit

def rowMod (i : Nat) (f : List Cell → List Cell) (L : List Ln) : List Ln := match L[i]? with | some l => L.set i (f l.1, l.2) | none => L
def softMod (i : Nat) (s : Bool) (L : List Ln) : List Ln := match L[i]? with | some l => L.set i (l.1, s) | none => L
theorem rowMod_some {i : Nat} {f : List Cell → List Cell} {L : List Ln} {l : Ln} (h : L[i]? = some l) : rowMod i f L = L.set i (f l.1, l.2) := by unfold rowMod; rw [h]
theorem rowMod_length (i : Nat) (f : List Cell → List Cell) (L : List Ln) : (rowMod i f L).length = L.length := by unfold rowMod; split <;> simp
theorem softMod_length (i : Nat) (s : Bool) (L : List Ln) : (softMod i s L).length = L.length := by unfold softMod; split <;> simp
theorem rect_set {n i : Nat} {L : List Ln} {l : Ln} (h : Rect n L) (hl : l.1.length = n) : Rect n (L.set i l) := fun x hx => by
 rcases List.mem_or_eq_of_mem_set hx with h1 | rfl
 ·exact h x h1
 ·exact hl
theorem Rect.rowMod {n : Nat} {L : List Ln} (h : Rect n L) (i : Nat) {f : List Cell → List Cell} (hf : ∀ cs : List Cell, cs.length = n → (f cs).length = n) : Rect n (rowMod i f L) := by
 unfold Proofs.YtppijfjigcoifaaDoor.rowMod
 split
 ·rename_i l hl; exact rect_set h (hf _ (h.at_ hl))
 ·exact h
theorem Rect.softMod {n : Nat} {L : List Ln} (h : Rect n L) (i : Nat) (s : Bool) : Rect n (softMod i s L) := by
 unfold Proofs.YtppijfjigcoifaaDoor.softMod
 split
 ·rename_i l hl; exact rect_set h (show l.1.length = n from h.at_ hl)
 ·exact h
theorem Rect.mill {n : Nat} {L : List Ln} (h : Rect n L) (hn : n ≤ 1000) : ∀ l ∈ L, l.1.length ≤ 1000000 := fun l hl => by rw [h l hl]; omega
theorem get_of {α : Type} {L : List α} {i : Nat} (h : i < L.length) : ∃ l, L[i]? = some l := ⟨L[i], by simp [h]⟩
section
variable {w0 w : World} {os : List Ob} {k p cols : Nat} {L : List Ln}
theorem set_at {k : Nat} {o o' : Ob} (hk : os[k]? = some o) : (os.set k o')[k]? = some o' := List.getElem?_set_self (List.getElem?_eq_some_iff.1 hk).1
theorem PutG {i j : Nat} (x : Cell) (hT : Tabs w0) (hS : Objs w0 w os) (hk : os[k]? = some (.grid p 58 cols L)) (hcm : cols ≤ 1000) (hR : Rect cols L) (hi : i < L.length) (hv : x.ok = true) (hw : ¬ x.width = 0) (hfit : (j : Int) + x.width ≤ cols) :
  Calls Tryd.prog 33 #[.pointer (some ⟨p, 0, none⟩), .int .i64 i, .int .i64 j, .agg (cv x)] w fun e w' => e = .returned (.int .i64 0) ∧ Objs w0 w' (os.set k (.grid p 58 cols (rowMod i (putC j x) L))) := by
 obtain ⟨l, hl⟩ := get_of hi
 rw [rowMod_some hl]
 have hxw : 1 ≤ x.width := by rcases ok_w12 hv hw with h | h <;> omega
 exact front_call hS hk (fun os1 h => Put_yes x hT h (by omega) hcm hl (hR.at_ hl) hv hw hfit)
theorem r14PutG {i j : Nat} (x : Cell) (hS : Objs w0 w os) (hk : os[k]? = some (.grid p 33 cols L)) (hcm : cols ≤ 1000) (hR : Rect cols L) (hi : i < L.length) (hv : x.ok = true) (hw : ¬ x.width = 0) (hfit : (j : Int) + x.width ≤ cols) :
  Calls Tryd.prog 34 #[.pointer (some ⟨p, 0, none⟩), .int .i64 i, .int .i64 j, .agg (cv x)] w fun e w' => e = .returned (.tuple #[]) ∧ Objs w0 w' (os.set k (.grid p 33 cols (rowMod i (putC j x) L))) := by
 obtain ⟨l, hl⟩ := get_of hi
 rw [rowMod_some hl]
 have hxw : 1 ≤ x.width := by rcases ok_w12 hv hw with h | h <;> omega
 exact front_call hS hk (fun os1 h => r14Put_any x h (by omega) hcm hl (hR.at_ hl) hv hw hfit)
end
end Go.Proofs.YtppijfjigcoifaaDoor

namespace Go.Proofs.YtppijfjigcoifaaDoor
open Go.RowKit

theorem cAt_set (cs : List Cell) (i j : Nat) (x : Cell) : cAt (cs.set i x) j = if i = j ∧ i < cs.length then x else cAt cs j := by
 unfold cAt
 simp only [List.getD_eq_getElem?_getD, List.getElem?_set]
 by_cases h : i = j
 ·subst h
  by_cases h2 : i < cs.length
  ·simp [h2]
  ·simp [h2]
 ·simp [h]
theorem cells_ext {xs ys : List Cell} (hl : xs.length = ys.length) (h : ∀ j, j < xs.length → cAt xs j = cAt ys j) : xs = ys := by
 apply List.ext_getElem hl
 intro j h1 h2
 have := h j h1
 rwa [cAt_eq h1, cAt_eq h2] at this
theorem cAt_brk (c : Nat) (cs : List Cell) (j : Nat) : cAt (brk c cs) j = if (1 ≤ c ∧ c < cs.length ∧ (cAt cs (c - 1)).width = 2) ∧ (j + 1 = c ∨ j = c) then blank (cAt cs j).pen else cAt cs j := by
 cases c with
 | zero => simp [brk]
 | succ m =>
  rw [brk_succ]
  by_cases h : m + 1 < cs.length ∧ (cAt cs m).width = 2
  ·rw [if_pos h, cAt_set, cAt_set]
   simp only [List.length_set, Nat.add_sub_cancel]
   by_cases h1 : m + 1 = j
   ·subst h1; simp [h.1, h.2]
   ·by_cases h2 : m = j
    ·subst h2; simp [h.2, show m < cs.length by omega, h.1]
    ·rw [if_neg (by omega), if_neg (by omega), if_neg (by omega)]
  ·rw [if_neg h, if_neg]
   simp only [Nat.add_sub_cancel]
   intro h2; exact h ⟨h2.1.2.1, h2.1.2.2⟩
theorem cAt_wipe {a m : Nat} {p : Pen} {cs : List Cell} (h : a + m ≤ cs.length) (j : Nat) : cAt (wipeC a m p cs) j = if a ≤ j ∧ j < a + m then blank p else cAt cs j := by
 unfold cAt wipeC
 simp only [List.getD_eq_getElem?_getD]
 by_cases h1 : j < a
 ·rw [if_neg (by omega), List.append_assoc, List.getElem?_append_left (by simp; omega), List.getElem?_take, if_pos h1]
 ·by_cases h2 : j < a + m
  ·rw [if_pos ⟨by omega, h2⟩, List.append_assoc, List.getElem?_append_right (by simp; omega), List.getElem?_append_left (by simp; omega)]
   simp [List.getElem?_replicate, show min a cs.length = a by omega, show j - a < m by omega]
  ·rw [if_neg (by omega), List.getElem?_append_right (by simp; omega), List.getElem?_drop]
   congr 2
   simp; omega
def lnMod (i : Nat) (F : Ln → Ln) (L : List Ln) : List Ln := match L[i]? with | some l => L.set i (F l) | none => L
theorem lnMod_get (i : Nat) (F : Ln → Ln) (L : List Ln) (r : Nat) : (lnMod i F L)[r]? = (L[r]?).map (fun l => if r = i then F l else l) := by
 unfold lnMod
 split
 ·rename_i l hl
  rw [List.getElem?_set]
  by_cases h : i = r
  ·subst h
   have hi := (List.getElem?_eq_some_iff.1 hl).1
   rw [if_pos rfl, if_pos hi, hl]
   simp
  ·rw [if_neg h]
   have h' : ¬ r = i := fun e => h e.symm
   simp [h']
 ·rename_i hl
  by_cases h : r = i
  ·subst h; rw [hl]; rfl
  ·simp [h]
theorem rowMod_is (i : Nat) (f : List Cell → List Cell) (L : List Ln) : rowMod i f L = lnMod i (fun l => (f l.1, l.2)) L := rfl
theorem softMod_is (i : Nat) (s : Bool) (L : List Ln) : softMod i s L = lnMod i (fun l => (l.1, s)) L := rfl
theorem lnMod_lnMod (i : Nat) (F G : Ln → Ln) (L : List Ln) : lnMod i F (lnMod i G L) = lnMod i (fun l => F (G l)) L := by
 apply List.ext_getElem?
 intro r
 rw [lnMod_get, lnMod_get, lnMod_get, Option.map_map]
 congr 1
 funext l
 by_cases h : r = i <;> simp [h]
theorem Rect.lnMod {n : Nat} {L : List Ln} (h : Rect n L) (i : Nat) {F : Ln → Ln} (hF : ∀ l : Ln, l.1.length = n → (F l).1.length = n) : Rect n (lnMod i F L) := by
 unfold Proofs.YtppijfjigcoifaaDoor.lnMod
 split
 ·rename_i l hl; exact rect_set h (hF _ (h.at_ hl))
 ·exact h
def otherRow (row : Nat) (k : Int) (n : Nat) : Prop := (n < row ∧ ¬ k = 0) ∨ (row < n ∧ ¬ k = 1)
instance (row : Nat) (k : Int) (n : Nat) : Decidable (otherRow row k n) := by unfold otherRow; infer_instance
section
variable {cols row col : Nat} {k : Int} {q : Pen} {L : List Ln}
end
end Go.Proofs.YtppijfjigcoifaaDoor

namespace Go.Proofs.YtppijfjigcoifaaDoor
open Go.RowKit

def inG (row col : Int) (pend : Bool) (rows cols : Nat) : Bool := decide ((0 ≤ row ∧ row < rows) ∧ (0 ≤ col ∧ col < cols) ∧ (pend = true → col = (cols : Int) - 1))
theorem ingrid_iff {row col : Int} {pend : Bool} {rows cols : Nat} : inG row col pend rows cols = true ↔ (0 ≤ row ∧ row < rows) ∧ (0 ≤ col ∧ col < cols) ∧ (pend = true → col = (cols : Int) - 1) := decide_eq_true_iff
section
variable {w0 w : World} {os : List Ob} {k p cols : Nat} {L : List Ln}
end
end Go.Proofs.YtppijfjigcoifaaDoor

namespace Go.Proofs.YtppijfjigcoifaaDoor
open Go.RowKit

end Go.Proofs.YtppijfjigcoifaaDoor

namespace Go.Proofs.YtppijfjigcoifaaDoor
open Go.RowKit

abbrev Tr := Value × Ln
section
variable {w0 w : World} {os : List Ob}
end
end Go.Proofs.YtppijfjigcoifaaDoor

namespace Go.Proofs.YtppijfjigcoifaaDoor
open Go.RowKit

section
variable {w0 w : World} {os : List Ob} {v : Value} {hp : List (Value × Bool)}
end
end Go.Proofs.YtppijfjigcoifaaDoor

namespace Go.Proofs.YtppijfjigcoifaaDoor
open Go.RowKit

def rollK (n : Int) (many : Nat) : Nat := if -(many : Int) < n ∧ n < many then n.natAbs else many
theorem rollK_le (n : Int) (many : Nat) : rollK n many ≤ many := by unfold rollK; split <;> omega
def lastHard (S : List Ln) : List Ln := softMod (S.length - 1) false S
theorem lastHard_length (S : List Ln) : (lastHard S).length = S.length := softMod_length _ _ _
def rollIn (top bot : Nat) (L : List Ln) : List Ln := (L.drop top).take (bot + 1 - top)
def rollStay (top bot : Nat) (n : Int) (L : List Ln) : List Ln :=
 if 0 < n then (rollIn top bot L).drop (rollK n (bot + 1 - top)) else (rollIn top bot L).take (bot + 1 - top - rollK n (bot + 1 - top))
def rollFresh (k cols : Nat) (q : Pen) : List Ln := List.replicate k (List.replicate cols (blank q), false)
def rollMid (top bot : Nat) (n : Int) (q : Pen) (cols : Nat) (L : List Ln) : List Ln :=
 if 0 < n then lastHard (rollStay top bot n L) ++ rollFresh (rollK n (bot + 1 - top)) cols q else rollFresh (rollK n (bot + 1 - top)) cols q ++ lastHard (rollStay top bot n L)
def topHard (top : Nat) (L : List Ln) : List Ln := if 0 < top then softMod (top - 1) false L else L
def rollL (top bot : Nat) (n : Int) (q : Pen) (cols : Nat) (L : List Ln) : List Ln :=
 if n = 0 then L else topHard top (L.take top ++ (rollMid top bot n q cols L ++ L.drop (bot + 1)))
theorem Rect.topHard {n : Nat} {L : List Ln} (h : Rect n L) (top : Nat) : Rect n (topHard top L) := by unfold Proofs.YtppijfjigcoifaaDoor.topHard; split; exact h.softMod _ _; exact h
section
variable {top bot : Nat} {n : Int} {q : Pen} {cols : Nat} {L : List Ln}
theorem rollIn_length (h1 : top ≤ bot) (h2 : bot < L.length) : (rollIn top bot L).length = bot + 1 - top := by simp [rollIn]; omega
theorem rollStay_length (h1 : top ≤ bot) (h2 : bot < L.length) : (rollStay top bot n L).length = bot + 1 - top - rollK n (bot + 1 - top) := by
 have := rollK_le n (bot + 1 - top)
 unfold rollStay
 split <;> simp [rollIn_length h1 h2]
theorem rollMid_length (h1 : top ≤ bot) (h2 : bot < L.length) : (rollMid top bot n q cols L).length = bot + 1 - top := by
 have := rollK_le n (bot + 1 - top)
 unfold rollMid
 split <;> simp [lastHard_length, rollStay_length h1 h2, rollFresh] <;> omega
theorem Rect.part {n : Nat} {L : List Ln} (h : Rect n L) (a b : Nat) : Rect n ((L.drop a).take b) := fun l hl => h l (List.mem_of_mem_drop (List.mem_of_mem_take hl))
theorem Rect.app {n : Nat} {A B : List Ln} (h : Rect n A) (g : Rect n B) : Rect n (A ++ B) := fun l hl => (List.mem_append.1 hl).elim (h l) (g l)
theorem rect_fresh (k cols : Nat) (q : Pen) : Rect cols (rollFresh k cols q) := fun l hl => by rw [(List.mem_replicate.1 hl).2]; simp
theorem Rect.rollStay {cols : Nat} {L : List Ln} (h : Rect cols L) (top bot : Nat) (n : Int) : Rect cols (rollStay top bot n L) := by
 unfold Proofs.YtppijfjigcoifaaDoor.rollStay
 split
 ·exact fun l hl => h.part _ _ l (List.mem_of_mem_drop hl)
 ·exact fun l hl => h.part _ _ l (List.mem_of_mem_take hl)
theorem Rect.rollL {L : List Ln} (h : Rect cols L) : Rect cols (rollL top bot n q cols L) := by
 unfold Proofs.YtppijfjigcoifaaDoor.rollL
 split
 ·exact h
 ·refine Rect.topHard (Rect.app (fun l hl => h l (List.mem_of_mem_take hl)) (Rect.app ?_ (fun l hl => h l (List.mem_of_mem_drop hl)))) _
  unfold rollMid
  split
  ·exact ((h.rollStay _ _ _).softMod _ _).app (rect_fresh _ _ _)
  ·exact (rect_fresh _ _ _).app ((h.rollStay _ _ _).softMod _ _)
end
section
variable {w0 w : World} {os : List Ob}
end
section
variable {w0 w : World} {os : List Ob}
end
section
variable {T F : List Tr} {L : List Ln} {top bot k many cols : Nat} {n : Int} {q : Pen}
end
end Go.Proofs.YtppijfjigcoifaaDoor

namespace Go.Proofs.YtppijfjigcoifaaDoor
open Go.RowKit

section
variable {w0 w : World} {os : List Ob}
end
section
variable {w0 w : World} {os : List Ob} {p cols : Nat} {L : List Ln}
end
end Go.Proofs.YtppijfjigcoifaaDoor

namespace Go.Proofs.YtppijfjigcoifaaDoor
open Go.RowKit

section
variable {w0 w : World} {os : List Ob} {p cols : Nat} {L : List Ln}
end
end Go.Proofs.YtppijfjigcoifaaDoor

namespace Go.Proofs.YtppijfjigcoifaaDoor
open Go.RowKit

end Go.Proofs.YtppijfjigcoifaaDoor

namespace Go.Proofs.YtppijfjigcoifaaDoor
open Go.RowKit

theorem RdL.part {w : World} {b off c c' a m : Nat} {L : List Ln} (h : RdL w (some ⟨b, off, none⟩) c L) (ham : a + m ≤ L.length) (hm : m ≤ c') : RdL w (some ⟨b, off + a * 2, none⟩) c' ((L.drop a).take m) := by
 refine ⟨by simp; omega, (fun e => by cases e), fun hn => ?_⟩
 have hm0 : 0 < m := by simp at hn; omega
 obtain ⟨b', off', e, hz, hr⟩ := h.2.2 (by omega)
 cases e
 refine ⟨b, off + a * 2, rfl, hz, fun i l hl => ?_⟩
 rw [List.getElem?_take] at hl
 split at hl
 ·rw [List.getElem?_drop] at hl
  obtain ⟨A', c', h1, h2, h3⟩ := hr (a + i) l hl
  exact ⟨A', c', by rw [show off + a * 2 + i * 2 = off + (a + i) * 2 by omega]; exact h1, by rw [show off + a * 2 + i * 2 + 1 = off + (a + i) * 2 + 1 by omega]; exact h2, h3⟩
 ·cases hl
theorem RdL.empty (w : World) (ad : Addr) (c : Nat) : RdL w (some ad) c [] := ⟨by simp, (fun e => by cases e), fun h => by simp at h⟩
section
variable {w0 w : World} {os : List Ob} {v : Value} {hp : List (Value × Bool)}
end
section
variable {T Ts Tf : List Tr} {L : List Ln} {top bot k many cols : Nat} {n : Int} {q : Pen}
end
end Go.Proofs.YtppijfjigcoifaaDoor

namespace Go.Proofs.YtppijfjigcoifaaDoor
open Go.RowKit

section
variable {w0 w : World} {os : List Ob}
end
section
variable {w0 w : World} {os : List Ob} {x cols : Nat} {L : List Ln}
end
end Go.Proofs.YtppijfjigcoifaaDoor

namespace Go.Proofs.YtppijfjigcoifaaDoor
open Go.RowKit

section
variable {w0 w : World} {os : List Ob} {v : Value} {hp : List (Value × Bool)}
end
section
variable {w0 w : World} {os : List Ob} {x cols : Nat} {L : List Ln}
end
end Go.Proofs.YtppijfjigcoifaaDoor

namespace Go.Proofs.YtppijfjigcoifaaDoor
open Go.RowKit

def shiftN (j cols : Nat) (n : Int) (q : Pen) (cs : List Cell) : List Cell :=
 if n = 0 then cs else if 0 < n then shiftR j (min n ((cols - j : Nat) : Int)).toNat q cs else shiftL j (min (-n) ((cols - j : Nat) : Int)).toNat q cs
section
variable {w0 w : World} {os : List Ob} {k p cols : Nat} {L : List Ln}
theorem ShiftG {i j : Nat} (n : Int) (q : Pen) (hT : Tabs w0) (hS : Objs w0 w os) (hk : os[k]? = some (.grid p 58 cols L)) (hcm : cols ≤ 1000) (hR : Rect cols L) (hi : i < L.length) (hq : q.ok = true) (hj : j < cols) (hn : -9223372036854775808 ≤ n ∧ n ≤ 9223372036854775807) :
  Calls Tryd.prog 52 #[.pointer (some ⟨p, 0, none⟩), .int .i64 i, .int .i64 j, .int .i64 n, .agg (pv q)] w fun e w' => e = .returned (.int .i64 0) ∧ Objs w0 w' (os.set k (.grid p 58 cols (rowMod i (shiftN j cols n q) L))) := by
 obtain ⟨l, hl⟩ := get_of hi
 rw [rowMod_some hl]
 have hc : 0 < cols := by omega
 have hrow : l.1.length = cols := hR.at_ hl
 by_cases h0 : n = 0
 ·have e : shiftN j cols n q l.1 = l.1 := if_pos h0
  rw [e, set_self hl]
  exact front_call hS hk (fun os1 h => Shift_none q hT h hc hcm ⟨by omega, by omega⟩ hq h0)
 by_cases h1 : 0 < n
 ·have e : shiftN j cols n q l.1 = shiftR j (min n ((cols - j : Nat) : Int)).toNat q l.1 := by unfold shiftN; rw [if_neg h0, if_pos h1]
  rw [e]
  exact front_call hS hk (fun os1 h => Shift_right q hT h hc hcm hl hrow hq n hj h1 hn.2 (by omega))
 have e : shiftN j cols n q l.1 = shiftL j (min (-n) ((cols - j : Nat) : Int)).toNat q l.1 := by unfold shiftN; rw [if_neg h0, if_neg h1]
 rw [e]
 by_cases h2 : -n < ((cols - j : Nat) : Int)
 ·obtain ⟨m, hm⟩ : ∃ m : Nat, (m : Int) = -n := ⟨(-n).toNat, by omega⟩
  obtain rfl : n = -(m : Int) := by omega
  rw [show (min (-(-(m : Int))) ((cols - j : Nat) : Int)).toNat = m by omega]
  exact front_call hS hk (fun os1 h => Shift_left1 q hT h hc hcm hl hrow hq hj (by omega) (by omega))
 ·rw [show (min (-n) ((cols - j : Nat) : Int)).toNat = cols - j by omega]
  exact front_call hS hk (fun os1 h => Shift_left2 q hT h hc hcm hl hrow hq n hj (by omega) (by omega) hn.1)
theorem r14ShiftG {i j : Nat} (n : Int) (q : Pen) (hS : Objs w0 w os) (hk : os[k]? = some (.grid p 33 cols L)) (hcm : cols ≤ 1000) (hR : Rect cols L) (hi : i < L.length) (hj : j < cols) (hn : -9223372036854775808 ≤ n ∧ n ≤ 9223372036854775807) :
  Calls Tryd.prog 82 #[.pointer (some ⟨p, 0, none⟩), .int .i64 i, .int .i64 j, .int .i64 n, .agg (pv q)] w fun e w' => e = .returned (.tuple #[]) ∧ Objs w0 w' (os.set k (.grid p 33 cols (rowMod i (shiftN j cols n q) L))) := by
 obtain ⟨l, hl⟩ := get_of hi
 rw [rowMod_some hl]
 have hc : 0 < cols := by omega
 have hrow : l.1.length = cols := hR.at_ hl
 by_cases h0 : n = 0
 ·have e : shiftN j cols n q l.1 = l.1 := if_pos h0
  rw [e, set_self hl]
  exact front_call hS hk (fun os1 h => r14Shift_none q n h hc hcm hl hrow h0)
 by_cases h1 : 0 < n
 ·have e : shiftN j cols n q l.1 = shiftR j (min n ((cols - j : Nat) : Int)).toNat q l.1 := by unfold shiftN; rw [if_neg h0, if_pos h1]
  rw [e]
  exact front_call hS hk (fun os1 h => r14Shift_right q h hc hcm hl hrow n hj h1 hn.2 (by omega))
 have e : shiftN j cols n q l.1 = shiftL j (min (-n) ((cols - j : Nat) : Int)).toNat q l.1 := by unfold shiftN; rw [if_neg h0, if_neg h1]
 rw [e]
 by_cases h2 : -n < ((cols - j : Nat) : Int)
 ·obtain ⟨m, hm⟩ : ∃ m : Nat, (m : Int) = -n := ⟨(-n).toNat, by omega⟩
  obtain rfl : n = -(m : Int) := by omega
  rw [show (min (-(-(m : Int))) ((cols - j : Nat) : Int)).toNat = m by omega]
  exact front_call hS hk (fun os1 h => r14Shift_left1 q h hc hcm hl hrow hj (by omega) (by omega))
 ·rw [show (min (-n) ((cols - j : Nat) : Int)).toNat = cols - j by omega]
  exact front_call hS hk (fun os1 h => r14Shift_left2 q h hc hcm hl hrow n hj (by omega) (by omega) hn.1)
end
theorem shiftN_length {j cols : Nat} {n : Int} {q : Pen} {cs : List Cell} (h : cs.length = cols) (hj : j < cols) : (shiftN j cols n q cs).length = cols := by
 unfold shiftN
 split
 ·exact h
 split
 ·rw [shiftR_length (by omega)]; exact h
 ·rw [shiftL_length (by omega)]; exact h
end Go.Proofs.YtppijfjigcoifaaDoor

namespace Go.Proofs.YtppijfjigcoifaaDoor
open Go.RowKit

def hardIf (b : Prop) [Decidable b] (l : Ln) : Ln := if b then (l.1, false) else l
def freshLn (cols : Nat) (q : Pen) : Ln := (List.replicate cols (blank q), false)
theorem hardIf_no {b : Prop} [Decidable b] (h : ¬ b) : hardIf b = id := by funext l; simp [hardIf, h]
theorem softMod_get (i : Nat) (L : List Ln) (r : Nat) : (softMod i false L)[r]? = (L[r]?).map (hardIf (r = i)) := by
  rw [softMod_is, lnMod_get]; rfl
theorem rollFresh_get {k cols r : Nat} {q : Pen} (h : r < k) : (rollFresh k cols q)[r]? = some (freshLn cols q) := by simp [rollFresh, freshLn, h]
theorem rollFresh_len (k cols : Nat) (q : Pen) : (rollFresh k cols q).length = k := by simp [rollFresh]
def rollAt (top bot : Nat) (n : Int) (q : Pen) (cols : Nat) (L : List Ln) (r : Nat) : Option Ln :=
  if n = 0 then L[r]? else
  (if r < top ∨ bot < r then L[r]?
   else if 0 < n then (if r + rollK n (bot + 1 - top) ≤ bot then (L[r + rollK n (bot + 1 - top)]?).map (hardIf (r + rollK n (bot + 1 - top) = bot)) else some (freshLn cols q))
   else (if r < top + rollK n (bot + 1 - top) then some (freshLn cols q) else (L[r - rollK n (bot + 1 - top)]?).map (hardIf (r = bot)))).map (hardIf (0 < top ∧ r + 1 = top))
section
variable {top bot : Nat} {n : Int} {q : Pen} {cols : Nat} {L : List Ln}
theorem rollIn_get {r : Nat} (hr : r < bot + 1 - top) : (rollIn top bot L)[r]? = L[top + r]? := by
  unfold rollIn; rw [List.getElem?_take, if_pos hr, List.getElem?_drop]
theorem rollMid_get (htb : top ≤ bot) (hbl : bot < L.length) {r : Nat} (hr : r < bot + 1 - top) :
    (rollMid top bot n q cols L)[r]? = if 0 < n then (if r + rollK n (bot + 1 - top) ≤ bot - top then (L[top + r + rollK n (bot + 1 - top)]?).map (hardIf (r + rollK n (bot + 1 - top) = bot - top)) else some (freshLn cols q))
      else (if r < rollK n (bot + 1 - top) then some (freshLn cols q) else (L[top + r - rollK n (bot + 1 - top)]?).map (hardIf (r = bot - top))) := by
  have hK := rollK_le n (bot + 1 - top)
  have hSl := rollStay_length (n := n) htb hbl
  unfold rollMid
  by_cases h0 : 0 < n
  · rw [if_pos h0, if_pos h0]
    by_cases h1 : r + rollK n (bot + 1 - top) ≤ bot - top
    · rw [if_pos h1, List.getElem?_append_left (by rw [lastHard_length, hSl]; omega)]
      unfold lastHard
      rw [softMod_get, hSl]
      unfold rollStay
      rw [if_pos h0, List.getElem?_drop, rollIn_get (by omega), show top + (rollK n (bot + 1 - top) + r) = top + r + rollK n (bot + 1 - top) by omega]
      congr 1
      funext l
      unfold hardIf
      by_cases h2 : r + rollK n (bot + 1 - top) = bot - top
      · rw [if_pos (by omega), if_pos h2]
      · rw [if_neg (by omega), if_neg h2]
    · rw [if_neg h1, List.getElem?_append_right (by rw [lastHard_length, hSl]; omega), rollFresh_get (by rw [lastHard_length, hSl]; omega)]
  · rw [if_neg h0, if_neg h0]
    by_cases h1 : r < rollK n (bot + 1 - top)
    · rw [if_pos h1, List.getElem?_append_left (by rw [rollFresh_len]; exact h1), rollFresh_get h1]
    · rw [if_neg h1, List.getElem?_append_right (by rw [rollFresh_len]; omega), rollFresh_len]
      unfold lastHard
      rw [softMod_get, hSl]
      unfold rollStay
      rw [if_neg h0, List.getElem?_take, if_pos (by omega), rollIn_get (by omega), show top + (r - rollK n (bot + 1 - top)) = top + r - rollK n (bot + 1 - top) by omega]
      congr 1
      funext l
      unfold hardIf
      by_cases h2 : r = bot - top
      · rw [if_pos (by omega), if_pos h2]
      · rw [if_neg (by omega), if_neg h2]
theorem topHard_get (r : Nat) : (topHard top L)[r]? = (L[r]?).map (hardIf (0 < top ∧ r + 1 = top)) := by
  unfold topHard
  by_cases h : 0 < top
  · rw [if_pos h, softMod_get]
    congr 1
    funext l
    unfold hardIf
    by_cases h2 : r = top - 1
    · rw [if_pos h2, if_pos (by omega)]
    · rw [if_neg h2, if_neg (by omega)]
  · rw [if_neg h, hardIf_no (by omega)]; simp
theorem rollL_get (htb : top ≤ bot) (hbl : bot < L.length) (r : Nat) : (rollL top bot n q cols L)[r]? = rollAt top bot n q cols L r := by
  unfold rollL rollAt
  by_cases h0 : n = 0
  · rw [if_pos h0, if_pos h0]
  rw [if_neg h0, if_neg h0, topHard_get]
  congr 1
  have hM := rollMid_length (n := n) (q := q) (cols := cols) htb hbl
  by_cases h1 : r < top
  · rw [List.getElem?_append_left (by simp; omega), List.getElem?_take, if_pos h1, if_pos (.inl h1)]
  have hTl : (L.take top).length = top := by simp; omega
  rw [List.getElem?_append_right (by omega), hTl]
  by_cases h2 : bot < r
  · rw [List.getElem?_append_right (by omega), hM, List.getElem?_drop, if_pos (.inr h2), show bot + 1 + (r - top - (bot + 1 - top)) = r by omega]
  rw [List.getElem?_append_left (by omega), rollMid_get htb hbl (by omega), if_neg (by omega : ¬ (r < top ∨ bot < r))]
  by_cases h3 : 0 < n
  · rw [if_pos h3, if_pos h3]
    by_cases h4 : r + rollK n (bot + 1 - top) ≤ bot
    · rw [if_pos (by omega), if_pos h4, show top + (r - top) = r by omega]
      congr 1
      funext l
      unfold hardIf
      by_cases h5 : r + rollK n (bot + 1 - top) = bot
      · rw [if_pos (by omega), if_pos h5]
      · rw [if_neg (by omega), if_neg h5]
    · rw [if_neg (show ¬ r - top + rollK n (bot + 1 - top) ≤ bot - top by omega), if_neg h4]
  · rw [if_neg h3, if_neg h3]
    by_cases h4 : r < top + rollK n (bot + 1 - top)
    · rw [if_pos (show r - top < rollK n (bot + 1 - top) by omega), if_pos h4]
    · rw [if_neg (show ¬ r - top < rollK n (bot + 1 - top) by omega), if_neg h4, show top + (r - top) = r by omega]
      congr 1
      funext l
      unfold hardIf
      by_cases h5 : r = bot
      · rw [if_pos (by omega), if_pos h5]
      · rw [if_neg (by omega), if_neg h5]
theorem hardIf_fresh (a : Prop) [Decidable a] (cols : Nat) (q : Pen) : hardIf a (freshLn cols q) = freshLn cols q := by
  unfold hardIf freshLn; split <;> rfl
theorem rollAt_out (hn : ¬ n = 0) {r : Nat} (h : r < top ∨ bot < r) : rollAt top bot n q cols L r = (L[r]?).map (hardIf (0 < top ∧ r + 1 = top)) := by
  unfold rollAt; rw [if_neg hn, if_pos h]
theorem rollAt_up (hn : 0 < n) {r K : Nat} (hK : rollK n (bot + 1 - top) = K) (h : ¬ (r < top ∨ bot < r)) (h2 : r + K ≤ bot) : rollAt top bot n q cols L r = (L[r + K]?).map (hardIf (r + K = bot)) := by
  subst hK
  unfold rollAt
  rw [if_neg (show ¬ n = 0 by omega), if_neg h, if_pos hn, if_pos h2, hardIf_no (show ¬ (0 < top ∧ r + 1 = top) by omega), Option.map_id, id]
theorem rollAt_upf (hn : 0 < n) {r K : Nat} (hK : rollK n (bot + 1 - top) = K) (h : ¬ (r < top ∨ bot < r)) (h2 : ¬ r + K ≤ bot) : rollAt top bot n q cols L r = some (freshLn cols q) := by
  subst hK
  unfold rollAt
  rw [if_neg (show ¬ n = 0 by omega), if_neg h, if_pos hn, if_neg h2, Option.map_some, hardIf_fresh]
theorem rollAt_dnf (hn : n < 0) {r K : Nat} (hK : rollK n (bot + 1 - top) = K) (h : ¬ (r < top ∨ bot < r)) (h2 : r < top + K) : rollAt top bot n q cols L r = some (freshLn cols q) := by
  subst hK
  unfold rollAt
  rw [if_neg (show ¬ n = 0 by omega), if_neg h, if_neg (show ¬ 0 < n by omega), if_pos h2, Option.map_some, hardIf_fresh]
theorem rollAt_dn (hn : n < 0) {r K : Nat} (hK : rollK n (bot + 1 - top) = K) (h : ¬ (r < top ∨ bot < r)) (h2 : ¬ r < top + K) : rollAt top bot n q cols L r = (L[r - K]?).map (hardIf (r = bot)) := by
  subst hK
  unfold rollAt
  rw [if_neg (show ¬ n = 0 by omega), if_neg h, if_neg (show ¬ 0 < n by omega), if_neg h2, hardIf_no (show ¬ (0 < top ∧ r + 1 = top) by omega), Option.map_id, id]
end
end Go.Proofs.YtppijfjigcoifaaDoor

namespace Go.Proofs.YtppijfjigcoifaaDoor
open Go.RowKit

theorem brk_id {c : Nat} {cs : List Cell} (h : 1 ≤ c → c < cs.length → ¬ (cAt cs (c - 1)).width = 2) : brk c cs = cs :=
 cells_ext (brk_length _ _) (fun j hj => by rw [cAt_brk, if_neg]; intro h2; exact h h2.1.1 h2.1.2.1 h2.1.2.2)
theorem brk_before {c : Nat} {cs : List Cell} (h1 : 1 ≤ c) (hc : c < cs.length) : ¬ (cAt (brk c cs) (c - 1)).width = 2 := by
 rw [cAt_brk]
 split
 ·simp [blank]
 ·rename_i h; intro h2; exact h ⟨⟨h1, hc, h2⟩, by omega⟩
section
variable {j k m : Nat} {q : Pen} {cs : List Cell}
theorem cAt_shiftR (h : j + k ≤ cs.length) {i : Nat} (hi : i < cs.length) : cAt (shiftR j k q cs) i = if i < j then cAt (brk (cs.length - k) (brk j cs)) i else if i < j + k then blank q else cAt (brk (cs.length - k) (brk j cs)) (i - k) := by
 obtain ⟨l, hl⟩ : ∃ l, l = brk (cs.length - k) (brk j cs) := ⟨_, rfl⟩
 have hll : l.length = cs.length := by rw [hl, brk_length, brk_length]
 unfold shiftR
 simp only [← hl]
 have ht : (l.take j).length = j := by simp; omega
 unfold cAt
 simp only [List.getD_eq_getElem?_getD]
 by_cases h1 : i < j
 ·rw [if_pos h1, List.getElem?_append_left (by omega), List.getElem?_take, if_pos h1]
 ·rw [if_neg h1, List.getElem?_append_right (by omega), ht]
  by_cases h2 : i < j + k
  ·rw [if_pos h2, List.getElem?_append_left (by simp; omega)]
   simp [List.getElem?_replicate, show i - j < k by omega]
  ·rw [if_neg h2, List.getElem?_append_right (by simp; omega), List.length_replicate, List.getElem?_take, if_pos (by omega), List.getElem?_drop, show j + (i - j - k) = i - k by omega]
theorem cAt_shiftL (h : j + k ≤ cs.length) {i : Nat} (hi : i < cs.length) : cAt (shiftL j k q cs) i = if i < j then cAt (brk (j + k) (brk j cs)) i else if i < cs.length - k then cAt (brk (j + k) (brk j cs)) (i + k) else blank q := by
 obtain ⟨l, hl⟩ : ∃ l, l = brk (j + k) (brk j cs) := ⟨_, rfl⟩
 have hll : l.length = cs.length := by rw [hl, brk_length, brk_length]
 unfold shiftL
 simp only [← hl]
 have ht : (l.take j).length = j := by simp; omega
 unfold cAt
 simp only [List.getD_eq_getElem?_getD]
 by_cases h1 : i < j
 ·rw [if_pos h1, List.getElem?_append_left (by omega), List.getElem?_take, if_pos h1]
 ·rw [if_neg h1, List.getElem?_append_right (by omega), ht]
  by_cases h2 : i < cs.length - k
  ·rw [if_pos h2, List.getElem?_append_left (by simp; omega), List.getElem?_drop, show j + k + (i - j) = i + k by omega]
  ·rw [if_neg h2, List.getElem?_append_right (by simp; omega)]
   simp [List.getElem?_replicate, show i - j - (l.length - (j + k)) < k by omega]
def W2 (cs : List Cell) : Prop := ∀ i, i + 1 < cs.length → (cAt cs i).width = 2 → ¬ (cAt cs (i + 1)).width = 2
theorem W2.brk {cs : List Cell} (h : W2 cs) (c : Nat) : W2 (brk c cs) := fun i hi h1 h2 => by
 rw [brk_length] at hi
 rw [cAt_brk] at h1 h2
 split at h1
 ·simp [blank] at h1
 ·split at h2
  ·simp [blank] at h2
  ·exact h i hi h1 h2
end
section
variable {j cols a b : Nat} {q : Pen} {cs : List Cell}
end
end Go.Proofs.YtppijfjigcoifaaDoor

namespace Go.Proofs.YtppijfjigcoifaaDoor
open Go.RowKit

def prCell (cols : Nat) (x : Cell) : Cell := if (cols : Int) < x.width then blank x.pen else x
def prAt (cols j : Nat) (x : Cell) : Nat := min j (cols - x.width.toNat)
def prRow (ins : Bool) (j cols : Nat) (x : Cell) (cs : List Cell) : List Cell := putC j x (if ins then shiftN j cols x.width x.pen cs else cs)
def prCol (cols j : Nat) (x : Cell) : Nat := if j + x.width.toNat < cols then j + x.width.toNat else cols - 1
def prPend (cols j : Nat) (x : Cell) (auto : Bool) : Bool := if j + x.width.toNat < cols then false else auto
def printL (y j cols : Nat) (x : Cell) (ins : Bool) (L : List Ln) : List Ln := rowMod y (prRow ins (prAt cols j (prCell cols x)) cols (prCell cols x)) L
section
variable {j k cols : Nat} {x : Cell} {cs : List Cell} {ins : Bool}
theorem prRow_length (hl : cs.length = cols) (hj : j < cols) : (prRow ins j cols x cs).length = cols := by
 unfold prRow
 rw [putC_length]
 split
 ·exact shiftN_length hl hj
 ·exact hl
theorem prCell_width (hc : 0 < cols) (hw : x.width = 1 ∨ x.width = 2) : ((prCell cols x).width = 1 ∨ (prCell cols x).width = 2) ∧ (prCell cols x).width ≤ cols := by
 unfold prCell
 split
 ·exact ⟨.inl rfl, by show (1 : Int) ≤ cols; omega⟩
 ·exact ⟨hw, by omega⟩
theorem prAt_fits (hj : j < cols) (hw : x.width = 1 ∨ x.width = 2) (h : x.width ≤ cols) : ((prAt cols j x : Nat) : Int) + x.width ≤ cols ∧ prAt cols j x < cols ∧ prAt cols j x ≤ j ∧ (¬ (x.width = 2 ∧ j = cols - 1) → prAt cols j x = j) := by
 unfold prAt
 refine ⟨?_, ?_, ?_, fun hn => ?_⟩ <;> omega
theorem prCol_lt (hc : 0 < cols) : prCol cols j x < cols := by unfold prCol; split <;> omega
theorem prPend_at {auto : Bool} (h : prPend cols j x auto = true) : prCol cols j x = cols - 1 := by
 unfold prPend at h
 unfold prCol
 split at h
 ·cases h
 ·next hn => rw [if_neg hn]
end
end Go.Proofs.YtppijfjigcoifaaDoor

namespace Go.Proofs.YtppijfjigcoifaaDoor
open Go.RowKit

section
variable {w0 w : World} {os : List Ob} {k p cols : Nat} {L : List Ln}
end
end Go.Proofs.YtppijfjigcoifaaDoor

namespace Go.Proofs.YtppijfjigcoifaaDoor
open Go.RowKit

section
variable {w0 w : World} {os : List Ob} {k p cols : Nat} {L : List Ln}
end
end Go.Proofs.YtppijfjigcoifaaDoor

namespace Go.Proofs.YtppijfjigcoifaaDoor
open Go.RowKit

section
variable {w0 w : World} {os : List Ob} {k p cols : Nat} {L : List Ln} {row col : Int} {pend : Bool}
def NoRows (w : World) (gp : Value) : Prop := ∀ w', Below w.heap.size w w' → Calls Tryd.prog 17 #[gp] w' fun e w2 => e = .returned (.int .i64 0) ∧ Below w'.heap.size w' w2
theorem NoRows.bel {gp : Value} {w' : World} (h : NoRows w gp) (hb : Below w.heap.size w w') : NoRows w' gp := fun w2 hb2 => h w2 (hb.trans (hb2.mono hb.size))
end
end Go.Proofs.YtppijfjigcoifaaDoor

namespace Go.Proofs.YtppijfjigcoifaaDoor
open Go.RowKit

structure Chg18 where
 g : Value
 row : Int
 col : Int
 pend : Bool
 top : Int
 bot : Int
 rows : Bool
 n : Int
 q : Pen
def ach (a : Chg18) : Array Value := #[a.g, .int .i64 a.row, .int .i64 a.col, .bool a.pend, .int .i64 a.top, .int .i64 a.bot, .bool a.rows, .int .i64 a.n, .int .i64 a.q.fk, .int .u8 a.q.fi, .int .u8 a.q.fr, .int .u8 a.q.fg, .int .u8 a.q.fb, .int .i64 a.q.bk, .int .u8 a.q.bi, .int .u8 a.q.br, .int .u8 a.q.bg, .int .u8 a.q.bb, .int .u8 a.q.fl]
@[go_sem] theorem ach_size (a : Chg18) : (ach a).size = 19 := by simp [ach]
@[simp high, go_sem high] theorem ach_get0 (a : Chg18) : (ach a)[0]? = some a.g := by simp [ach]
@[simp high, go_sem high] theorem ach_get1 (a : Chg18) : (ach a)[1]? = some (.int .i64 a.row) := by simp [ach]
@[simp high, go_sem high] theorem ach_get2 (a : Chg18) : (ach a)[2]? = some (.int .i64 a.col) := by simp [ach]
@[simp high, go_sem high] theorem ach_get3 (a : Chg18) : (ach a)[3]? = some (.bool a.pend) := by simp [ach]
@[simp high, go_sem high] theorem ach_get4 (a : Chg18) : (ach a)[4]? = some (.int .i64 a.top) := by simp [ach]
@[simp high, go_sem high] theorem ach_get5 (a : Chg18) : (ach a)[5]? = some (.int .i64 a.bot) := by simp [ach]
@[simp high, go_sem high] theorem ach_get6 (a : Chg18) : (ach a)[6]? = some (.bool a.rows) := by simp [ach]
@[simp high, go_sem high] theorem ach_get7 (a : Chg18) : (ach a)[7]? = some (.int .i64 a.n) := by simp [ach]
theorem ach_pen {w : World} {b o : Nat} {a : Chg18} (h : w.rangeAt b o (ach a).toList) : penAt w b (o + 8) = some a.q := penAt_of fun j v hv => by
 have := h (8 + j) v (by rw [← hv]; show ((ach a).toList)[8 + j]? = _; rw [← List.getElem?_drop]; rfl)
 rw [show o + 8 + j = o + (8 + j) by omega]; exact this
theorem Blk.ach_pen {w : World} {g : Nat} {t : TypeId} {a : Chg18} (h : Blk w g t (ach a)) : Proofs.YtppijfjigcoifaaDoor.penAt w g 8 = some a.q := by have := Proofs.YtppijfjigcoifaaDoor.ach_pen h.range; simpa using this
section
variable {w0 w : World} {os : List Ob} {k p cols : Nat} {L : List Ln}
end
end Go.Proofs.YtppijfjigcoifaaDoor

namespace Go.Proofs.YtppijfjigcoifaaDoor
open Go.RowKit

@[go_sem ↓] theorem load_ldR19 (a : Addr) : loadCellsFrom a 0 19 #[] = ldR a 19 := rfl
@[go_sem] theorem fill_ach (g : Value) (r c t b n : Int) (pe ro : Bool) (q : Pen) : Array.foldl (fun cs x => cs.setIfInBounds (8 + x.snd) x.fst) #[g, .int .i64 r, .int .i64 c, .bool pe, .int .i64 t, .int .i64 b, .bool ro, .int .i64 n, .int .i64 0, .int .u8 0, .int .u8 0, .int .u8 0, .int .u8 0, .int .i64 0, .int .u8 0, .int .u8 0, .int .u8 0, .int .u8 0, .int .u8 0] (pv q).zipIdx 0 11 = ach ⟨g, r, c, pe, t, b, ro, n, q⟩ := by kernel_rfl
theorem Blk.ach {w : World} {g : Nat} {t : TypeId} {a : Chg18} (h : Blk w g t (Proofs.YtppijfjigcoifaaDoor.ach a)) : (∀ i, w.cell? ⟨g, i, none⟩ = (Proofs.YtppijfjigcoifaaDoor.ach a)[i]?) ∧ (∀ i, w.frozen? ⟨g, i, none⟩ = false) ∧ g < w.heap.size ∧ Proofs.YtppijfjigcoifaaDoor.recAt w g 0 19 = some (Proofs.YtppijfjigcoifaaDoor.ach a) ∧ Proofs.YtppijfjigcoifaaDoor.penAt w g 8 = some a.q :=
 ⟨h.cell, h.frozen, h.lt, h.recAt 19 (ach_size a), h.ach_pen⟩
def NoGrid (w : World) (gp : Value) : Prop := NoRows w gp ∧ ∀ w', Below w.heap.size w w' → Calls Tryd.prog 18 #[gp] w' fun e w2 => e = .returned (.int .i64 0) ∧ Below w'.heap.size w' w2
theorem NoGrid.bel {w w' : World} {gp : Value} (h : NoGrid w gp) (hb : Below w.heap.size w w') : NoGrid w' gp := ⟨h.1.bel hb, fun w2 hb2 => h.2 w2 (hb.trans (hb2.mono hb.size))⟩
section
variable {w0 w : World} {os : List Ob} {k p cols : Nat} {L : List Ln}
end
end Go.Proofs.YtppijfjigcoifaaDoor

namespace Go.Proofs.YtppijfjigcoifaaDoor
open Go.RowKit

theorem eqIn_cursor (a b c d : Int) (x y : Bool) (w : World) : (Op.equalIn 10000 48 (.agg #[.int .i64 a, .int .i64 b, .bool x]) (.agg #[.int .i64 c, .int .i64 d, .bool y])).run Tryd.prog w = .ok (decide (a = c ∧ b = d ∧ x = y)) w := by
 by_cases h0 : a = c
 case neg => simp [go_sem, h0]
 by_cases h1 : b = d
 case neg => simp [go_sem, h0, h1]
 cases x <;> cases y <;> simp [go_sem, h0, h1]
section
variable {w0 w : World} {os : List Ob} {k p cols : Nat} {L : List Ln}
end
end Go.Proofs.YtppijfjigcoifaaDoor

namespace Go.Proofs.YtppijfjigcoifaaDoor
open Go.RowKit

theorem loadVar_blk {P : Program} {w : World} {g : Nat} {t ty : TypeId} {cs : Array Value} {d : TypeDesc} (h : Blk w g t cs) (hu : P.underlying ty = some d) (hd : (match d with | .struct _ | .array _ _ => true | _ => false) = true) (hi : (P.info? ty).map (·.size) = some cs.size) : (loadVar ty ⟨g, 0, none⟩).run P w = .ok (.agg cs) w := by
 exact run_loadVar_row w g t ty cs (0, 0) d h hu hd hi
theorem results_cell1 {P : Program} {fn : Func} {p : Tmp} {ty : TypeId} (h : fn.results = #[.cell p ty]) (tmps : Array Value) (w : World) (g : Nat) (t : TypeId) (cs : Array Value) (d : TypeDesc) (hp : tmps.getD p undef = .pointer (some ⟨g, 0, none⟩)) (hb : Blk w g t cs)
  (hu : P.underlying ty = some d) (hd : (match d with | .struct _ | .array _ _ => true | _ => false) = true) (hi : (P.info? ty).map (·.size) = some cs.size) : (results fn tmps).run P w = .ok (.agg cs) w := by
 have hp' : tmps[p]?.getD undef = .pointer (some ⟨g, 0, none⟩) := by simpa using hp
 simp [results, h, hp', asAddr, loadVar_blk hb hu hd hi]
section
variable {w0 w : World} {os : List Ob} {k p cols : Nat} {L : List Ln}
end
end Go.Proofs.YtppijfjigcoifaaDoor

namespace Go.Proofs.YtppijfjigcoifaaDoor
open Go.RowKit

section
variable {w0 w : World} {os : List Ob} {k p cols : Nat} {L : List Ln}
end
end Go.Proofs.YtppijfjigcoifaaDoor

namespace Go.Proofs.YtppijfjigcoifaaDoor
open Go.RowKit

section
variable {w0 w : World} {os : List Ob} {k p cols : Nat} {L : List Ln}
end
end Go.Proofs.YtppijfjigcoifaaDoor

namespace Go.Proofs.YtppijfjigcoifaaDoor
open Go.RowKit

@[go_sem ↓] theorem load_ldR18b (a : Addr) : loadCellsFrom a 0 18 #[] = ldR a 18 := rfl
attribute [go_sem high] eqIn_cursor
structure Act19 where
 what : Int
 n : Int
 top : Int
 bot : Int
 row : Int
 col : Int
 pend : Bool
 q : Pen
def av19 (a : Act19) : Array Value := #[.int .i64 a.what, .int .i64 a.n, .int .i64 a.top, .int .i64 a.bot, .int .i64 a.row, .int .i64 a.col, .bool a.pend, .int .i64 a.q.fk, .int .u8 a.q.fi, .int .u8 a.q.fr, .int .u8 a.q.fg, .int .u8 a.q.fb, .int .i64 a.q.bk, .int .u8 a.q.bi, .int .u8 a.q.br, .int .u8 a.q.bg, .int .u8 a.q.bb, .int .u8 a.q.fl]
@[go_sem] theorem av19_size (a : Act19) : (av19 a).size = 18 := by simp [av19]
@[simp high, go_sem high] theorem av19_get0 (a : Act19) : (av19 a)[0]? = some (.int .i64 a.what) := by simp [av19]
@[simp high, go_sem high] theorem av19_get1 (a : Act19) : (av19 a)[1]? = some (.int .i64 a.n) := by simp [av19]
@[simp high, go_sem high] theorem av19_get2 (a : Act19) : (av19 a)[2]? = some (.int .i64 a.top) := by simp [av19]
@[simp high, go_sem high] theorem av19_get3 (a : Act19) : (av19 a)[3]? = some (.int .i64 a.bot) := by simp [av19]
@[simp high, go_sem high] theorem av19_get4 (a : Act19) : (av19 a)[4]? = some (.int .i64 a.row) := by simp [av19]
@[simp high, go_sem high] theorem av19_get5 (a : Act19) : (av19 a)[5]? = some (.int .i64 a.col) := by simp [av19]
@[simp high, go_sem high] theorem av19_get6 (a : Act19) : (av19 a)[6]? = some (.bool a.pend) := by simp [av19]
@[go_sem] theorem av19_set0 (a : Act19) (n : Int) : (av19 a).setIfInBounds 0 (.int .i64 n) = av19 { a with what := n } := by simp [av19]
@[go_sem] theorem av19_set1 (a : Act19) (n : Int) : (av19 a).setIfInBounds 1 (.int .i64 n) = av19 { a with n := n } := by simp [av19]
end Go.Proofs.YtppijfjigcoifaaDoor

namespace Go.Proofs.YtppijfjigcoifaaDoor
open Go.RowKit

section
variable {w0 w : World} {os : List Ob}
end
end Go.Proofs.YtppijfjigcoifaaDoor

namespace Go.Proofs.YtppijfjigcoifaaDoor
open Go.RowKit

@[go_sem ↓] theorem load_ldR34 (a : Addr) : loadCellsFrom a 0 34 #[] = ldR a 34 := rfl
structure Act14 where
 what : Int
 row : Int
 a : Int
 b : Int
 n : Int
 x : Cell
 A : Option Addr
 c : Nat
 cs : List Cell
 soft : Bool
 q : Pen
def av14 (a : Act14) : Array Value := #[.int .i64 a.what, .int .i64 a.row, .int .i64 a.a, .int .i64 a.b, .int .i64 a.n, .int .i32 a.x.rune, .int .i32 a.x.m0, .int .i32 a.x.m1, .int .i32 a.x.m2, .int .i64 a.x.width, .int .i64 a.x.pen.fk, .int .u8 a.x.pen.fi, .int .u8 a.x.pen.fr, .int .u8 a.x.pen.fg, .int .u8 a.x.pen.fb, .int .i64 a.x.pen.bk, .int .u8 a.x.pen.bi, .int .u8 a.x.pen.br, .int .u8 a.x.pen.bg, .int .u8 a.x.pen.bb, .int .u8 a.x.pen.fl, .slice a.A a.cs.length a.c, .bool a.soft, .int .i64 a.q.fk, .int .u8 a.q.fi, .int .u8 a.q.fr, .int .u8 a.q.fg, .int .u8 a.q.fb, .int .i64 a.q.bk, .int .u8 a.q.bi, .int .u8 a.q.br, .int .u8 a.q.bg, .int .u8 a.q.bb, .int .u8 a.q.fl]
@[go_sem] theorem av14_size (a : Act14) : (av14 a).size = 34 := by simp [av14]
@[simp high, go_sem high] theorem av14_get0 (a : Act14) : (av14 a)[0]? = some (.int .i64 a.what) := by simp [av14]
@[simp high, go_sem high] theorem av14_get1 (a : Act14) : (av14 a)[1]? = some (.int .i64 a.row) := by simp [av14]
@[simp high, go_sem high] theorem av14_get2 (a : Act14) : (av14 a)[2]? = some (.int .i64 a.a) := by simp [av14]
@[simp high, go_sem high] theorem av14_get3 (a : Act14) : (av14 a)[3]? = some (.int .i64 a.b) := by simp [av14]
@[simp high, go_sem high] theorem av14_get4 (a : Act14) : (av14 a)[4]? = some (.int .i64 a.n) := by simp [av14]
@[simp high, go_sem high] theorem av14_get9 (a : Act14) : (av14 a)[9]? = some (.int .i64 a.x.width) := by simp [av14]
@[simp high, go_sem high] theorem av14_get21 (a : Act14) : (av14 a)[21]? = some (.slice a.A a.cs.length a.c) := by simp [av14]
@[simp high, go_sem high] theorem av14_get22 (a : Act14) : (av14 a)[22]? = some (.bool a.soft) := by simp [av14]
end Go.Proofs.YtppijfjigcoifaaDoor

namespace Go.Proofs.YtppijfjigcoifaaDoor
open Go.RowKit

section
variable {w0 w : World} {os : List Ob} {cs : List Cell} {x : Cell} {v : Value} {L : List Ln} {l : Ln}
theorem Objs.ownAt {k j : Nat} (hS : Objs w0 w os) (hk : os[k]? = some (.cells v cs)) (hj : cs[j]? = some x) : ∃ g c, v = .slice (some ⟨g, 0, none⟩) cs.length c ∧ g < w.heap.size ∧ w.cell? ⟨g, j * 16 + 4, none⟩ = some (.int .i64 x.width) ∧ (∀ i, w.frozen? ⟨g, i, none⟩ = false) := by
 have hl := (List.getElem?_eq_some_iff.1 hj).1
 obtain ⟨A, c, rfl, -, -, -, h⟩ := own_form (hS.own hk)
 obtain ⟨g, rfl, hz, hc, hf⟩ := h (by omega)
 refine ⟨g, c, rfl, hz, ?_, hf⟩
 rw [hc _ (by omega), flat_at cs j 4 x hj (by decide)]
 simp
end
end Go.Proofs.YtppijfjigcoifaaDoor

namespace Go.Proofs.YtppijfjigcoifaaDoor
open Go.RowKit

section
variable {w0 w : World} {os : List Ob} {k p cols : Nat} {L : List Ln}
end
end Go.Proofs.YtppijfjigcoifaaDoor

namespace Go.Proofs.YtppijfjigcoifaaDoor
open Go.RowKit

structure RowC (cs : List Cell) (k : Nat) : Prop where
 ok : (cAt cs k).ok = true
 zero : (cAt cs k).width = 0 ↔ 1 ≤ k ∧ (cAt cs (k - 1)).width = 2
 pen : 1 ≤ k → (cAt cs (k - 1)).width = 2 → (cAt cs k).pen = (cAt cs (k - 1)).pen
 last : (cAt cs k).width = 2 → k + 1 < cs.length
def RowV (cs : List Cell) : Prop := ∀ k, k < cs.length → RowC cs k
theorem behind_is (cs : List Cell) (k : Nat) : behindAt cs k = true ↔ 1 ≤ k ∧ (cAt cs (k - 1)).width = 2 := by
 cases k with
 | zero => simp [behindAt]
 | succ k => simp [behindAt]
theorem rowAt_is {cs : List Cell} {k : Nat} (hk : k < cs.length) : rowAt cs k = true ↔ RowC cs k := by
 have hb := behind_is cs k
 unfold rowAt
 constructor
 ·intro h
  simp only [Bool.and_eq_true, Bool.not_eq_true', Bool.or_eq_true, beq_iff_eq, decide_eq_true_eq] at h
  obtain ⟨⟨⟨h1, h2⟩, h3⟩, h4⟩ := h
  refine ⟨h1, ?_, ?_, ?_⟩
  ·rw [← hb, ← h2, decide_eq_true_eq]
  ·intro a b
   rcases h3 with h3 | h3
   ·have := hb.2 ⟨a, b⟩; rw [h3] at this; cases this
   ·exact h3
  ·intro a
   rcases Nat.lt_or_ge (k + 1) cs.length with h5 | h5
   ·exact h5
   ·have e : k + 1 = cs.length := by omega
    simp [a, e] at h4
 ·rintro ⟨h1, h2, h3, h4⟩
  simp only [Bool.and_eq_true, Bool.not_eq_true', Bool.or_eq_true, beq_iff_eq, decide_eq_true_eq]
  refine ⟨⟨⟨h1, ?_⟩, ?_⟩, ?_⟩
  ·rw [Bool.eq_iff_iff, decide_eq_true_eq, hb]; exact h2
  ·cases hbb : behindAt cs k with
   | false => exact .inl rfl
   | true => obtain ⟨a, b⟩ := hb.1 hbb; exact .inr (h3 a b)
  ·rw [Bool.and_eq_false_iff]
   by_cases a : (cAt cs k).width = 2
   ·exact .inr (by have := h4 a; simp; omega)
   ·exact .inl (by simpa using a)
theorem rowOk_is {cs : List Cell} : rowOk cs = true ↔ RowV cs := by
 constructor
 ·intro h k hk; exact (rowAt_is hk).1 (rowOk_at h hk)
 ·intro h; exact rowOk_yes fun k hk => (rowAt_is hk).2 (h k hk)
theorem ok_penV {c : Cell} (h : c.ok = true) : c.pen.ok = true := by unfold Cell.ok at h; rw [Bool.and_eq_true] at h; exact h.1
theorem blank_ok' {p : Pen} (h : p.ok = true) : (blank p).ok = true := by rw [ok_blank]; exact h
theorem spacer_ok {p : Pen} (h : p.ok = true) : (spacer p).ok = true := by simp [Cell.ok, spacer, h, Cell.noMarks]
section
variable {cs : List Cell} {c j k : Nat} {x : Cell} {q : Pen}
theorem RowV.brk (h : RowV cs) (c : Nat) : RowV (brk c cs) := by
 intro k hk
 rw [brk_length] at hk
 have hg := cAt_brk c cs
 by_cases hc : 1 ≤ c ∧ c < cs.length ∧ (cAt cs (c - 1)).width = 2
 ·have h0 := h k hk
  have h1 := h (c - 1) (by omega)
  have h2 := h c hc.2.1
  refine ⟨?_, ?_, ?_, ?_⟩
  ·rw [hg]; split
   ·exact blank_ok' (ok_penV h0.ok)
   ·exact h0.ok
  ·rw [hg, hg]
   have z0 := h0.zero
   have z1 := h1.zero
   have z2 := h2.zero
   have w0 : ∀ p, (blank p).width = 1 := fun _ => rfl
   grind
  ·rw [hg, hg]
   have z0 := h0.pen
   have w0 : ∀ p, (blank p).width = 1 := fun _ => rfl
   have w1 : ∀ p, (blank p).pen = p := fun _ => rfl
   grind
  ·rw [hg, brk_length]
   have z0 := h0.last
   have w0 : ∀ p, (blank p).width = 1 := fun _ => rfl
   grind
 ·have e : ∀ i, cAt (Proofs.YtppijfjigcoifaaDoor.brk c cs) i = cAt cs i := fun i => by rw [hg, if_neg (fun a => hc a.1)]
  have h0 := h k hk
  exact ⟨by rw [e]; exact h0.ok, by rw [e, e]; exact h0.zero, by rw [e, e]; exact h0.pen, by rw [e, brk_length]; exact h0.last⟩
def CutAt (cs : List Cell) (c : Nat) : Prop := 1 ≤ c → c < cs.length → ¬ (cAt cs (c - 1)).width = 2
theorem cut_brk (c : Nat) (cs : List Cell) : CutAt (brk c cs) c := fun h1 h2 => brk_before h1 (by rwa [brk_length] at h2)
theorem CutAt.brk (h : CutAt cs j) (c : Nat) : CutAt (brk c cs) j := fun h1 h2 => by
 rw [brk_length] at h2
 rw [cAt_brk]
 split
 ·simp [blank]
 ·exact h h1 h2
theorem RowV.put (h : RowV cs) (hx : x.ok = true) (hw : x.width = 1 ∨ x.width = 2) (hj : (j : Int) + x.width ≤ cs.length) : RowV (putC j x cs) := by
 obtain ⟨b, hb⟩ : ∃ b, b = Proofs.YtppijfjigcoifaaDoor.brk (j + x.width.toNat) (Proofs.YtppijfjigcoifaaDoor.brk j cs) := ⟨_, rfl⟩
 have hbl : b.length = cs.length := by rw [hb, brk_length, brk_length]
 have hv : RowV b := by rw [hb]; exact (h.brk j).brk _
 have hc1 : CutAt b j := by rw [hb]; exact (cut_brk j cs).brk _
 have hc2 : CutAt b (j + x.width.toNat) := by rw [hb]; exact cut_brk _ _
 have hg : ∀ i, cAt (putC j x cs) i = if x.width = 2 ∧ i = j + 1 ∧ j + 1 < cs.length then spacer x.pen else if i = j then x else cAt b i := fun i => by
  unfold putC
  simp only [← hb]
  by_cases h2 : x.width = 2
  ·rw [if_pos h2, cAt_set, cAt_set, List.length_set, hbl]; grind
  ·rw [if_neg h2, cAt_set, hbl]; grind
 intro k hk
 rw [putC_length] at hk
 have hk2 : k < b.length := by omega
 have h0 := hv k hk2
 have w0 : ∀ p, (spacer p).width = 0 := fun _ => rfl
 have w1 : ∀ p, (spacer p).pen = p := fun _ => rfl
 have z0 := h0.zero
 have z1 := h0.pen
 have z2 := h0.last
 unfold CutAt at hc1 hc2
 have hxw : x.width.toNat = 1 ∨ x.width.toNat = 2 := by omega
 refine ⟨?_, ?_, ?_, ?_⟩
 ·rw [hg]; split
  ·exact spacer_ok (ok_penV hx)
  ·split
   ·exact hx
   ·exact h0.ok
 ·rw [hg, hg]
  rcases hw with hw | hw
  ·have e : x.width.toNat = 1 := by omega
   rw [e] at hc2
   grind
  ·have e : x.width.toNat = 2 := by omega
   rw [e] at hc2
   grind
 ·rw [hg, hg]
  rcases hw with hw | hw
  ·grind
  ·grind
 ·rw [hg, putC_length]
  rcases hw with hw | hw
  ·grind
  ·grind
theorem RowV.clear {f t : Nat} (h : RowV cs) (hq : q.ok = true) (ht : t ≤ cs.length) : RowV (clearC f t q cs) := by
 by_cases hft : f < t
 case neg => unfold clearC; rw [if_neg hft]; exact h
 obtain ⟨b, hb⟩ : ∃ b, b = Proofs.YtppijfjigcoifaaDoor.brk t (Proofs.YtppijfjigcoifaaDoor.brk f cs) := ⟨_, rfl⟩
 have hbl : b.length = cs.length := by rw [hb, brk_length, brk_length]
 have hv : RowV b := by rw [hb]; exact (h.brk f).brk _
 have hc1 : CutAt b f := by rw [hb]; exact (cut_brk f cs).brk _
 have hc2 : CutAt b t := by rw [hb]; exact cut_brk _ _
 have hg : ∀ i, i < cs.length → cAt (clearC f t q cs) i = if f ≤ i ∧ i < t then blank q else cAt b i := fun i hi => by
  unfold clearC
  rw [if_pos hft, ← hb]
  rw [cAt_wipe (by rw [hbl]; omega), show f + (t - f) = t by omega]
 intro k hk
 rw [clearC_length ht] at hk
 have h0 := hv k (by omega)
 have w0 : ∀ p, (blank p).width = 1 := fun _ => rfl
 have z0 := h0.zero
 have z1 := h0.pen
 have z2 := h0.last
 have hgk := hg k hk
 have hgk1 : 1 ≤ k → cAt (clearC f t q cs) (k - 1) = if f ≤ k - 1 ∧ k - 1 < t then blank q else cAt b (k - 1) := fun _ => hg (k - 1) (by omega)
 unfold CutAt at hc1 hc2
 refine ⟨?_, ?_, ?_, ?_⟩
 ·rw [hgk]; split
  ·exact blank_ok' hq
  ·exact h0.ok
 ·rw [hgk]; grind
 ·rw [hgk]; grind
 ·rw [hgk, clearC_length ht]; grind
theorem RowV.shiftR (h : RowV cs) (hq : q.ok = true) (hjk : j + k ≤ cs.length) (hk0 : 0 < k) : RowV (shiftR j k q cs) := by
 obtain ⟨b, hb⟩ : ∃ b, b = Proofs.YtppijfjigcoifaaDoor.brk (cs.length - k) (Proofs.YtppijfjigcoifaaDoor.brk j cs) := ⟨_, rfl⟩
 have hbl : b.length = cs.length := by rw [hb, brk_length, brk_length]
 have hv : RowV b := by rw [hb]; exact (h.brk j).brk _
 have hc1 : CutAt b j := by rw [hb]; exact (cut_brk j cs).brk _
 have hc2 : CutAt b (cs.length - k) := by rw [hb]; exact cut_brk _ _
 have hg : ∀ i, i < cs.length → cAt (Proofs.YtppijfjigcoifaaDoor.shiftR j k q cs) i = if i < j then cAt b i else if i < j + k then blank q else cAt b (i - k) := fun i hi => by rw [cAt_shiftR hjk hi, ← hb]
 intro i hi
 rw [shiftR_length hjk] at hi
 have w0 : ∀ p, (blank p).width = 1 := fun _ => rfl
 have hgi := hg i hi
 have hgi1 : 1 ≤ i → cAt (Proofs.YtppijfjigcoifaaDoor.shiftR j k q cs) (i - 1) = if i - 1 < j then cAt b (i - 1) else if i - 1 < j + k then blank q else cAt b (i - 1 - k) := fun _ => hg (i - 1) (by omega)
 unfold CutAt at hc1 hc2
 by_cases h1 : i < j
 ·have h0 := hv i (by omega)
  rw [if_pos h1] at hgi
  have e1 : 1 ≤ i → cAt (Proofs.YtppijfjigcoifaaDoor.shiftR j k q cs) (i - 1) = cAt b (i - 1) := fun a => by rw [hgi1 a, if_pos (by omega)]
  refine ⟨by rw [hgi]; exact h0.ok, ?_, ?_, ?_⟩
  ·rw [hgi]; have := h0.zero; grind
  ·rw [hgi]; have := h0.pen; grind
  ·rw [hgi, shiftR_length hjk]; have := h0.last; grind
 rw [if_neg h1] at hgi
 by_cases h2 : i < j + k
 ·rw [if_pos h2] at hgi
  refine ⟨by rw [hgi]; exact blank_ok' hq, ?_, ?_, ?_⟩
  ·rw [hgi]; grind
  ·rw [hgi]; grind
  ·rw [hgi]; intro a; cases a
 rw [if_neg h2] at hgi
 have h0 := hv (i - k) (by omega)
 have z0 := h0.zero
 have z1 := h0.pen
 have z2 := h0.last
 by_cases h3 : i = j + k
 ·subst h3
  have e1 : cAt (Proofs.YtppijfjigcoifaaDoor.shiftR j k q cs) (j + k - 1) = blank q := by rw [hgi1 (by omega), if_neg (by omega), if_pos (by omega)]
  rw [show j + k - k = j by omega] at hgi h0 z0 z1 z2
  refine ⟨by rw [hgi]; exact h0.ok, ?_, ?_, ?_⟩
  ·rw [hgi, e1]; grind
  ·rw [hgi, e1]; grind
  ·rw [hgi, shiftR_length hjk]; grind
 ·have e1 : cAt (Proofs.YtppijfjigcoifaaDoor.shiftR j k q cs) (i - 1) = cAt b (i - k - 1) := by rw [hgi1 (by omega), if_neg (by omega), if_neg (by omega)]; congr 1; omega
  refine ⟨by rw [hgi]; exact h0.ok, ?_, ?_, ?_⟩
  ·rw [hgi, e1]; grind
  ·rw [hgi, e1]; grind
  ·rw [hgi, shiftR_length hjk]; grind
theorem RowV.shiftL (h : RowV cs) (hq : q.ok = true) (hjk : j + k ≤ cs.length) (hk0 : 0 < k) : RowV (shiftL j k q cs) := by
 obtain ⟨b, hb⟩ : ∃ b, b = Proofs.YtppijfjigcoifaaDoor.brk (j + k) (Proofs.YtppijfjigcoifaaDoor.brk j cs) := ⟨_, rfl⟩
 have hbl : b.length = cs.length := by rw [hb, brk_length, brk_length]
 have hv : RowV b := by rw [hb]; exact (h.brk j).brk _
 have hc1 : CutAt b j := by rw [hb]; exact (cut_brk j cs).brk _
 have hc2 : CutAt b (j + k) := by rw [hb]; exact cut_brk _ _
 have hg : ∀ i, i < cs.length → cAt (Proofs.YtppijfjigcoifaaDoor.shiftL j k q cs) i = if i < j then cAt b i else if i < cs.length - k then cAt b (i + k) else blank q := fun i hi => by rw [cAt_shiftL hjk hi, ← hb]
 intro i hi
 rw [shiftL_length hjk] at hi
 have w0 : ∀ p, (blank p).width = 1 := fun _ => rfl
 have hgi := hg i hi
 have hgi1 : 1 ≤ i → cAt (Proofs.YtppijfjigcoifaaDoor.shiftL j k q cs) (i - 1) = if i - 1 < j then cAt b (i - 1) else if i - 1 < cs.length - k then cAt b (i - 1 + k) else blank q := fun _ => hg (i - 1) (by omega)
 unfold CutAt at hc1 hc2
 by_cases h1 : i < j
 ·have h0 := hv i (by omega)
  rw [if_pos h1] at hgi
  have e1 : 1 ≤ i → cAt (Proofs.YtppijfjigcoifaaDoor.shiftL j k q cs) (i - 1) = cAt b (i - 1) := fun a => by rw [hgi1 a, if_pos (by omega)]
  refine ⟨by rw [hgi]; exact h0.ok, ?_, ?_, ?_⟩
  ·rw [hgi]; have := h0.zero; grind
  ·rw [hgi]; have := h0.pen; grind
  ·rw [hgi, shiftL_length hjk]; have := h0.last; grind
 rw [if_neg h1] at hgi
 by_cases h2 : i < cs.length - k
 ·rw [if_pos h2] at hgi
  have h0 := hv (i + k) (by omega)
  have z0 := h0.zero
  have z1 := h0.pen
  have z2 := h0.last
  by_cases h3 : i = j
  ·subst h3
   have e1 : 1 ≤ i → cAt (Proofs.YtppijfjigcoifaaDoor.shiftL i k q cs) (i - 1) = cAt b (i - 1) := fun a => by rw [hgi1 a, if_pos (by omega)]
   refine ⟨by rw [hgi]; exact h0.ok, ?_, ?_, ?_⟩
   ·rw [hgi]; grind
   ·rw [hgi]; grind
   ·rw [hgi, shiftL_length hjk]; grind
  ·have e1 : cAt (Proofs.YtppijfjigcoifaaDoor.shiftL j k q cs) (i - 1) = cAt b (i + k - 1) := by rw [hgi1 (by omega), if_neg (by omega), if_pos (by omega)]; congr 1; omega
   refine ⟨by rw [hgi]; exact h0.ok, ?_, ?_, ?_⟩
   ·rw [hgi, e1]; grind
   ·rw [hgi, e1]; grind
   ·rw [hgi, shiftL_length hjk]; grind
 ·rw [if_neg h2] at hgi
  have hl : ¬ (cAt b (cs.length - 1)).width = 2 := fun a => by have := (hv (cs.length - 1) (by omega)).last a; omega
  have e1 : 1 ≤ i → ¬ (cAt (Proofs.YtppijfjigcoifaaDoor.shiftL j k q cs) (i - 1)).width = 2 := fun a => by
   rw [hgi1 a]
   split
   ·rw [show i - 1 = j - 1 by omega]; exact hc1 (by omega) (by omega)
   ·split
    ·rw [show i - 1 + k = cs.length - 1 by omega]; exact hl
    ·intro e; cases e
  refine ⟨by rw [hgi]; exact blank_ok' hq, ?_, ?_, ?_⟩
  ·rw [hgi]; grind
  ·rw [hgi]; grind
  ·rw [hgi]; intro a; cases a
theorem putC_same (h : RowV cs) (hj : j < cs.length) (h0 : ¬ (cAt cs j).width = 0) (hw : x.width = (cAt cs j).width) (hp : x.pen = (cAt cs j).pen) (hs : ∀ i, i < cs.length → (cAt cs i).width = 0 → cAt cs i = spacer (cAt cs i).pen) : putC j x cs = cs.set j x := by
 have h1 : Proofs.YtppijfjigcoifaaDoor.brk j cs = cs := brk_id fun a b c => by
  have := (h j hj).zero.2 ⟨a, c⟩
  exact h0 this
 have h2 : Proofs.YtppijfjigcoifaaDoor.brk (j + x.width.toNat) cs = cs := brk_id fun a b c => by
  have hw3 := ok_width (h j hj).ok
  rw [hw] at a b c
  rcases hw3 with e | e | e
  ·exact h0 e
  ·rw [e, show j + (1 : Int).toNat - 1 = j by simp] at c; omega
  ·rw [e, show j + (2 : Int).toNat - 1 = j + 1 by simp] at c
   have hl := (h j hj).last e
   have := (h (j + 1) hl).zero.2 ⟨by omega, by rw [Nat.add_sub_cancel]; exact e⟩
   omega
 unfold putC
 simp only [h1, h2]
 split
 ·next e =>
  have e2 : (cAt cs j).width = 2 := by rw [← hw]; exact e
  have hl := (h j hj).last e2
  have hz := (h (j + 1) hl).zero.2 ⟨by omega, by rw [Nat.add_sub_cancel]; exact e2⟩
  have hpn := (h (j + 1) hl).pen (by omega) (by rw [Nat.add_sub_cancel]; exact e2)
  rw [Nat.add_sub_cancel] at hpn
  have hsp := hs (j + 1) hl hz
  rw [hpn, ← hp] at hsp
  apply List.ext_getElem?
  intro r
  by_cases hr : r = j + 1
  ·subst hr
   rw [List.getElem?_set_self (by rw [List.length_set]; exact hl), List.getElem?_set_ne (by omega), List.getElem?_eq_getElem hl, ← hsp, cAt_eq hl]
  ·rw [List.getElem?_set_ne (by omega)]
 ·rfl
theorem zero_spacer {c : Cell} (h : c.ok = true) (hw : c.width = 0) : c = spacer c.pen := by
 obtain ⟨r, m0, m1, m2, wd, p⟩ := c
 simp only at hw
 subst hw
 unfold Cell.ok at h
 rw [Bool.and_eq_true] at h
 have h2 := h.2
 by_cases hr : r = 0
 ·subst hr
  simp only [if_true] at h2
  rw [Bool.and_eq_true] at h2
  have h3 := h2.2
  unfold Cell.noMarks at h3
  simp only [Bool.and_eq_true, decide_eq_true_eq, beq_iff_eq] at h3
  obtain ⟨h4, h5⟩ := h3
  simp_all [spacer]
 ·simp [hr] at h2
end
def AllV (L : List Ln) : Prop := ∀ l ∈ L, RowV l.1
theorem AllV.lnMod {L : List Ln} (h : AllV L) (i : Nat) {F : Ln → Ln} (hF : ∀ l : Ln, l ∈ L → RowV (F l).1) : AllV (lnMod i F L) := by
 unfold Proofs.YtppijfjigcoifaaDoor.lnMod
 split
 ·rename_i l hl
  intro x hx
  rcases List.mem_or_eq_of_mem_set hx with h1 | rfl
  ·exact h x h1
  ·exact hF l (List.mem_of_getElem? hl)
 ·exact h
theorem rowV_blanks {n : Nat} {q : Pen} (hq : q.ok = true) : RowV (List.replicate n (blank q)) := fun k hk => by
 rw [List.length_replicate] at hk
 have e : ∀ i, i < n → cAt (List.replicate n (blank q)) i = blank q := fun i hi => by rw [cAt_eq (by simpa using hi)]; simp
 refine ⟨by rw [e k hk]; exact blank_ok' hq, ?_, ?_, ?_⟩
 ·rw [e k hk]
  constructor
  ·intro a; cases a
  ·rintro ⟨a, b⟩; rw [e (k - 1) (by omega)] at b; cases b
 ·intro a b; rw [e (k - 1) (by omega)] at b; cases b
 ·rw [e k hk]; intro a; cases a
end Go.Proofs.YtppijfjigcoifaaDoor

namespace Go.Proofs.YtppijfjigcoifaaDoor
open Go.RowKit

section
variable {cs : List Cell} {j k cols : Nat} {x : Cell} {q : Pen} {n : Int}
theorem RowV.shiftN (h : RowV cs) (hq : q.ok = true) (hl : cs.length = cols) (hj : j < cols) : RowV (shiftN j cols n q cs) := by
 unfold Proofs.YtppijfjigcoifaaDoor.shiftN
 by_cases h0 : n = 0
 ·rw [if_pos h0]; exact h
 rw [if_neg h0]
 split
 ·exact h.shiftR hq (by omega) (by omega)
 ·exact h.shiftL hq (by omega) (by omega)
theorem RowV.print {ins : Bool} (h : RowV cs) (hx : x.ok = true) (hw : x.width = 1 ∨ x.width = 2) (hl : cs.length = cols) (hj : (j : Int) + x.width ≤ cols) : RowV (prRow ins j cols x cs) := by
 unfold prRow
 cases ins with
 | false => exact h.put hx hw (by rw [hl]; exact hj)
 | true =>
  simp only [if_true]
  have hj2 : j < cols := by omega
  exact (h.shiftN (ok_penV hx) hl hj2).put hx hw (by rw [shiftN_length hl hj2]; exact hj)
end
section
variable {top bot cols : Nat} {n : Int} {q : Pen} {L : List Ln}
theorem AllV.roll (h : AllV L) (hq : q.ok = true) (htb : top ≤ bot) (hbl : bot < L.length) : AllV (rollL top bot n q cols L) := fun l hl => by
 obtain ⟨r, hr, rfl⟩ := List.getElem_of_mem hl
 have h1 := rollL_get (n := n) (q := q) (cols := cols) htb hbl r
 rw [List.getElem?_eq_getElem hr] at h1
 have hm : ∀ (o : Option Ln) (p : Prop) [Decidable p] (x : Ln), (∀ y : Ln, o = some y → RowV y.1) → some x = o.map (hardIf p) → RowV x.1 := fun o p _ x ho h => by
  cases o with
  | none => simp at h
  | some y => simp only [Option.map_some, Option.some.injEq] at h; subst h; unfold hardIf; split <;> exact ho y rfl
 have hL : ∀ (i : Nat) (y : Ln), L[i]? = some y → RowV y.1 := fun i y hy => h y (List.mem_of_getElem? hy)
 have hfr : ∀ x : Ln, some x = some (freshLn cols q) → RowV x.1 := fun x e => by simp only [Option.some.injEq] at e; rw [e]; exact rowV_blanks hq
 by_cases hn : n = 0
 ·unfold rollAt at h1; rw [if_pos hn] at h1; exact hL r _ h1.symm
 by_cases ho : r < top ∨ bot < r
 ·rw [rollAt_out hn ho] at h1; exact hm _ _ _ (hL r) h1
 by_cases hp : 0 < n
 ·by_cases h2 : r + rollK n (bot + 1 - top) ≤ bot
  ·rw [rollAt_up hp rfl ho h2] at h1; exact hm _ _ _ (hL _) h1
  ·rw [rollAt_upf hp rfl ho h2] at h1; exact hfr _ h1
 ·have hn2 : n < 0 := by omega
  by_cases h2 : r < top + rollK n (bot + 1 - top)
  ·rw [rollAt_dnf hn2 rfl ho h2] at h1; exact hfr _ h1
  ·rw [rollAt_dn hn2 rfl ho h2] at h1; exact hm _ _ _ (hL _) h1
end
end Go.Proofs.YtppijfjigcoifaaDoor

namespace Go.Proofs.YtppijfjigcoifaaDoor
open Go.RowKit

theorem AllV.rowMod {L : List Ln} (h : AllV L) (i : Nat) {f : List Cell → List Cell} (hf : ∀ l : Ln, l ∈ L → RowV (f l.1)) : AllV (rowMod i f L) := by
 rw [rowMod_is]; exact h.lnMod i hf
theorem AllV.softMod {L : List Ln} (h : AllV L) (i : Nat) (s : Bool) : AllV (softMod i s L) := by
 rw [softMod_is]; exact h.lnMod i (fun l hl => h l hl)
theorem AllV.set {L : List Ln} (h : AllV L) (i : Nat) {l : Ln} (hl : RowV l.1) : AllV (L.set i l) := fun x hx => by
 rcases List.mem_or_eq_of_mem_set hx with h1 | rfl
 ·exact h x h1
 ·exact hl
theorem allV_new (rows cols : Nat) {q : Pen} (hq : q.ok = true) : AllV (List.replicate rows (List.replicate cols (blank q), false)) := fun l hl => by
 rw [(List.mem_replicate.1 hl).2]; exact rowV_blanks hq
end Go.Proofs.YtppijfjigcoifaaDoor

namespace Go.Proofs.YtppijfjigcoifaaDoor
open Go.RowKit

def pickAt (σ : List Ob) : Option Nat → Ob
 | some k => σ.getD k .none
 | none => .none
theorem Objs.pick {w0 w : World} {σ os : List Ob} (h : Objs w0 w (σ ++ os)) (ks : List (Option Nat)) (hn : (ks.filterMap id).Nodup) (hlt : (ks.filterMap id).all (fun k => decide (k < σ.length)) = true) : Objs w0 w (ks.map (pickAt σ) ++ os) := by
 obtain ⟨h1, F, h2, h3, h4, h5⟩ := h
 have hk : ∀ (i k : Nat), ks[i]? = some (some k) → k < σ.length := fun i k hi => by
  have := List.all_eq_true.1 hlt k (List.mem_filterMap.2 ⟨some k, List.mem_of_getElem? hi, rfl⟩)
  simpa using this
 have hinj : ∀ (i j k : Nat), ks[i]? = some (some k) → ks[j]? = some (some k) → i = j := by
  clear hk hlt h2 h3 h4 h5 h1
  induction ks with
  | nil => intro i j k hi; simp at hi
  | cons a r ih =>
   intro i j k hi hj
   have hr : (r.filterMap id).Nodup := by
    cases a with
    | none => simpa using hn
    | some x => simp at hn; exact hn.2
   have hno : ∀ m, a = some m → ∀ q, r[q]? ≠ some (some m) := fun m e q hq => by
    subst e
    simp at hn
    exact hn.1 (List.mem_of_getElem? hq)
   cases i with
   | zero =>
    cases j with
    | zero => rfl
    | succ j => simp at hi hj; exact (hno k hi j hj).elim
   | succ i =>
    cases j with
    | zero => simp at hi hj; exact (hno k hj i hi).elim
    | succ j => simp at hi hj; rw [ih hr i j k hi hj]
 refine ⟨h1, fun i b => if i < ks.length then ∃ k, ks[i]? = some (some k) ∧ F k b else F (i - ks.length + σ.length) b, fun i o hi => ?_, fun i b hb => ?_, fun i hi b hb => ?_, fun i j b hi hj => ?_⟩
 ·by_cases hl : i < ks.length
  ·simp only [hl, if_true]
   rw [List.getElem?_append_left (by simpa using hl), List.getElem?_map] at hi
   cases hks : ks[i]? with
   | none => rw [hks] at hi; simp at hi
   | some x =>
    rw [hks] at hi
    simp only [Option.map_some, Option.some.injEq] at hi
    cases x with
    | none => subst hi; rintro b ⟨k, e, -⟩; simp at e
    | some k =>
     have hlt := hk i k hks
     have hF : (fun b => ∃ k', some (some k) = some (some k') ∧ F k' b) = F k := by
      funext b
      exact propext ⟨fun ⟨k', e, hb⟩ => by simp at e; subst e; exact hb, fun hb => ⟨k, rfl, hb⟩⟩
     rw [hF]
     refine h2 k o ?_
     rw [List.getElem?_append_left hlt, ← hi]
     show σ[k]? = some (σ.getD k .none)
     rw [List.getD_eq_getElem?_getD, List.getElem?_eq_getElem hlt]; rfl
  ·simp only [hl, if_false]
   rw [List.getElem?_append_right (by simp; omega), List.length_map] at hi
   refine h2 _ o ?_
   rw [List.getElem?_append_right (by omega), Nat.add_sub_cancel]; exact hi
 ·simp only at hb
  split at hb
  ·obtain ⟨k, -, hb⟩ := hb; exact h3 _ b hb
  ·exact h3 _ b hb
 ·simp only at hb
  simp only [List.length_append, List.length_map] at hi
  rw [if_neg (by omega)] at hb
  exact h4 _ (by simp; omega) b hb
 ·simp only at hi hj
  split at hi
  ·obtain ⟨k, hks, hi⟩ := hi
   split at hj
   ·obtain ⟨k2, hks2, hj⟩ := hj
    have := h5 _ _ b hi hj
    subst this
    exact hinj i j _ hks hks2
   ·have := h5 _ _ b hi hj
    have := hk i k hks
    omega
  ·rename_i hil
   split at hj
   ·obtain ⟨k2, hks2, hj⟩ := hj
    have := h5 _ _ b hi hj
    have := hk j k2 hks2
    omega
   ·have := h5 _ _ b hi hj
    omega
theorem wanted_undef {ops : Array Oper} {o : Oper} {a : Act} {j : Nat} {x : Oper} {d : Tmp} {b : Bool} (hg : o.guard = some (j, b)) (ho : ops[j]? = some x) (hd : x.dst = some d) (hv : a.tmps.getD d undef = undef) : Region.wanted o (yielded ops a.tmps) = false := by
 have h : yielded ops a.tmps j = none := by
  cases h : a.tmps[d]? with
  | none => simp [yielded, ho, hd, h]
  | some v =>
   have : v = undef := by simpa [h] using hv
   subst this
   simp [yielded, ho, hd, h, undef]
 simp [Region.wanted, hg, h]
end Go.Proofs.YtppijfjigcoifaaDoor

namespace Go.Proofs.YtppijfjigcoifaaDoor
open Go.RowKit

theorem tg {σ os z : List Ob} {k : Nat} {o : Ob} (hl : σ.length = z.length) (hk : os[k]? = some o) : (σ ++ os)[z.length + k]? = some o := by
 rw [← hl, List.getElem?_append_right (Nat.le_add_right _ _), Nat.add_sub_cancel_left]; exact hk
section
variable {w0 w : World} {os : List Ob} {k p cols : Nat} {L : List Ln}
end
end Go.Proofs.YtppijfjigcoifaaDoor

namespace Go.Proofs.YtppijfjigcoifaaDoor
open Go.RowKit

def chkE (row col : Int) (pend : Bool) (rows cols : Nat) : Int := if inG row col pend rows cols = true then 0 else 2
section
variable {w0 w : World} {os : List Ob} {k p cols : Nat} {L : List Ln}
set_option maxRecDepth 100000 in
set_option maxHeartbeats 4000000 in
theorem prcheck_any (row col : Int) (b5 : Bool) (hS : Objs w0 w os) (hk : os[k]? = some (.grid p 58 cols L)) (hc : 0 < cols) (hcm : cols ≤ 1000) (hL : 0 < L.length) :
  Calls Tryd.prog 76 #[.pointer (some ⟨p, 0, none⟩), .agg #[.int .i64 row, .int .i64 col, .bool b5]] w fun e w' => e = .returned (.int .i64 (chkE row col b5 L.length cols)) ∧ Objs w0 w' os := by
 have S0 := Lib.hid hS
 have HK := Lib.hid hk
 clear hS hk
 obtain ⟨b1, h1⟩ : ∃ b1, decide (row < 0) = b1 := ⟨_, rfl⟩
 obtain ⟨b2, h2⟩ : ∃ b2, decide ((L.length : Int) ≤ row) = b2 := ⟨_, rfl⟩
 obtain ⟨b3, h3⟩ : ∃ b3, decide (col < 0) = b3 := ⟨_, rfl⟩
 obtain ⟨b4, h4⟩ : ∃ b4, decide ((cols : Int) ≤ col) = b4 := ⟨_, rfl⟩
 obtain ⟨b6, h6⟩ : ∃ b6, (col != (cols : Int) - 1) = b6 := ⟨_, rfl⟩
 have HE := Lib.hid (show chkE row col b5 L.length cols = if (b1 || b2 || b3 || b4 || (b5 && b6)) = true then 2 else 0 by
  unfold chkE
  by_cases hin : inG row col b5 L.length cols = true
  ·rw [if_pos hin]
   have hi := ingrid_iff.1 hin
   have e1 : b1 = false := by rw [← h1]; exact decide_eq_false (by omega)
   have e2 : b2 = false := by rw [← h2]; exact decide_eq_false (by omega)
   have e3 : b3 = false := by rw [← h3]; exact decide_eq_false (by omega)
   have e4 : b4 = false := by rw [← h4]; exact decide_eq_false (by omega)
   have e6 : (b5 && b6) = false := by
    cases b5 with
    | false => rfl
    | true => rw [← h6, hi.2.2 rfl]; simp
   rw [e1, e2, e3, e4, e6]; rfl
  ·rw [if_neg hin]
   have : (b1 || b2 || b3 || b4 || (b5 && b6)) = true := by
    apply Classical.byContradiction
    intro h
    apply hin
    have h' : (b1 = false ∧ b2 = false ∧ b3 = false ∧ b4 = false) ∧ (b5 = true → b6 = false) := by
     revert h; cases b1 <;> cases b2 <;> cases b3 <;> cases b4 <;> cases b5 <;> cases b6 <;> simp
    obtain ⟨⟨e1, e2, e3, e4⟩, e5⟩ := h'
    subst e1; subst e2; subst e3; subst e4
    have g1 := of_decide_eq_false h1
    have g2 := of_decide_eq_false h2
    have g3 := of_decide_eq_false h3
    have g4 := of_decide_eq_false h4
    rw [ingrid_iff]
    refine ⟨by omega, by omega, fun hp => ?_⟩
    have := e5 hp
    rw [this] at h6
    simpa using h6
   rw [if_pos this])
 have H1 := Lib.hid h1
 have H2 := Lib.hid h2
 have H3 := Lib.hid h3
 have H4 := Lib.hid h4
 have H6 := Lib.hid h6
 have HWC := Lib.hid (show IntKind.i64.wrap ((cols : Int) - 1) = (cols : Int) - 1 from IntWalk.i64_in _ (by omega))
 clear h1 h2 h3 h4 h6
 go_enter Tryd.func76, Tryd.ntmps76
 go_upto_region 1 with (fail)
 refine at_objsC S0.out.alloc1 (fun W hW => ?_)
 generalize w.heap.size = bc at hW ⊢
 have S1 := Lib.hid hW
 clear hW S0
 go_wp2_with fail
 refine (Rows_any S1.out (k := k + 1) HK.out).mono ?_
 rintro e w1 ⟨rfl, hS⟩
 have S2 := Lib.hid hS
 clear hS S1
 have hl0 : ((L.length : Int) == 0) = false := beq_no (by omega)
 have hl1 : ¬ (L.length : Int) = 0 := by omega
 go_upto_region 3 with (fail)
 refine wp_region_stage (w0 := w0) (os := os) (by kernel_rfl) (by kernel_rfl) (by kernel_rfl) [] [[], [0], [], [], [], [0], [], [], [], [], [], [], [0], [], [], [], [], [0], [], [], [], [], [], [], [0], [], [], [0], [], [], [], [], [], [], []] [.box bc 48 #[.int .i64 row, .int .i64 col, .bool b5]] (fun opn u => match opn with | 0 => u = pt bc 0 | 1 => u = .int .i64 row | 2 => u = .bool b1 | 3 => u = .bool b1 | 4 => u = ((bif b1 then undef else pt bc 0) : Value) | 5 => u = ((bif b1 then undef else .int .i64 row) : Value) | 6 => u = ((bif b1 then undef else pt p 0) : Value) | 7 => u = ((bif b1 then undef else .int .i64 L.length) : Value) | 8 => u = ((bif b1 then undef else .bool b2) : Value) | 9 => u = (.bool (b1 || b2) : Value) | 10 => u = (.bool (b1 || b2) : Value) | 11 => u = ((bif b1 then undef else bif b2 then undef else pt bc 1) : Value) | 12 => u = ((bif b1 then undef else bif b2 then undef else .int .i64 col) : Value) | 13 => u = ((bif b1 then undef else bif b2 then undef else .bool b3) : Value) | 14 => u = (.bool (b1 || b2 || b3) : Value) | 15 => u = (.bool (b1 || b2 || b3) : Value) | 16 => u = ((bif b1 then undef else bif b2 then undef else bif b3 then undef else pt bc 1) : Value) | 17 => u = ((bif b1 then undef else bif b2 then undef else bif b3 then undef else .int .i64 col) : Value) | 18 => u = ((bif b1 then undef else bif b2 then undef else bif b3 then undef else pt p 0) : Value) | 19 => u = ((bif b1 then undef else bif b2 then undef else bif b3 then undef else .int .i64 ↑cols) : Value) | 20 => u = ((bif b1 then undef else bif b2 then undef else bif b3 then undef else .bool b4) : Value) | 21 => u = (.bool (b1 || b2 || b3 || b4) : Value) | 22 => u = (.bool (b1 || b2 || b3 || b4) : Value) | 23 => u = ((bif b1 then undef else bif b2 then undef else bif b3 then undef else bif b4 then undef else pt bc 2) : Value) | 24 => u = ((bif b1 then undef else bif b2 then undef else bif b3 then undef else bif b4 then undef else .bool b5) : Value) | 25 => u = ((bif b1 then undef else bif b2 then undef else bif b3 then undef else bif b4 then undef else .bool b5) : Value) | 26 => u = ((bif b1 then undef else bif b2 then undef else bif b3 then undef else bif b4 then undef else bif b5 then pt bc 1 else undef) : Value) | 27 => u = ((bif b1 then undef else bif b2 then undef else bif b3 then undef else bif b4 then undef else bif b5 then .int .i64 col else undef) : Value) | 28 => u = ((bif b1 then undef else bif b2 then undef else bif b3 then undef else bif b4 then undef else bif b5 then pt p 0 else undef) : Value) | 29 => u = ((bif b1 then undef else bif b2 then undef else bif b3 then undef else bif b4 then undef else bif b5 then .int .i64 ↑cols else undef) : Value) | 30 => u = ((bif b1 then undef else bif b2 then undef else bif b3 then undef else bif b4 then undef else bif b5 then .int .i64 (↑cols - 1) else undef) : Value) | 31 => u = ((bif b1 then undef else bif b2 then undef else bif b3 then undef else bif b4 then undef else bif b5 then .bool b6 else undef) : Value) | 32 => u = ((bif b1 then undef else bif b2 then undef else bif b3 then undef else bif b4 then undef else .bool (b5 && b6)) : Value) | 33 => u = (.bool (b1 || b2 || b3 || b4 || (b5 && b6)) : Value) | 34 => u = (.bool (b1 || b2 || b3 || b4 || (b5 && b6)) : Value) | _ => True) (fun vs => [.box bc 48 #[.int .i64 row, .int .i64 col, .bool b5]]) (by kernel_rfl) (fun vs => by rfl) S2.out ?_ ?_
 ·apply sc
  ·intro a w' vs σ hS hl hs hk
   have f3 : a.tmps[3]?.getD undef = .pointer (some ⟨bc, 0, none⟩) := sof hk
   exact rp (pt bc 0) (by simp [execOp, Act.eval, f3, go_sem]) hl hs hS
  apply sc
  ·intro a w' vs σ hS hl hs hk
   have f10 : a.tmps[10]?.getD undef = .pointer (some ⟨bc, 0, none⟩) := sf hk 0
   have hx := (hS.box (sg (hs 0 (by decide)))).cell
   exact rp (.int .i64 row) (by simp [execOp, Act.eval, f10, go_sem, hx]) hl hs hS
  apply sc
  ·intro a w' vs σ hS hl hs hk
   have f11 : a.tmps[11]?.getD undef = .int .i64 row := sf hk 1
   exact rp (.bool b1) (by simp [execOp, Act.eval, f11, go_sem, H1.out]) hl hs hS
  apply sc
  ·intro a w' vs σ hS hl hs hk
   have f12 : a.tmps[12]?.getD undef = .bool b1 := sf hk 2
   exact rp (.bool b1) (by simp [execOp, Act.eval, f12, go_sem]) hl hs hS
  apply sc
  ·intro a w' vs σ hS hl hs hk
   cases b1 with
   | true =>
    exact rs_skip (wanted_no rfl rfl rfl (sv hk 3) (by simp)) (sp_same (by kernel_rfl) hl hs hS (show undef = _ from rfl))
   | false =>
    have f3 : a.tmps[3]?.getD undef = pt bc 0 := sof hk
    exact rq (pt bc 0) (wanted_yes rfl rfl rfl (sv hk 3)) (by simp [execOp, Act.eval, f3, go_sem]) hl hs hS
  apply sc
  ·intro a w' vs σ hS hl hs hk
   cases b1 with
   | true =>
    exact rs_skip (wanted_no rfl rfl rfl (sv hk 3) (by simp)) (sp_same (by kernel_rfl) hl hs hS (show undef = _ from rfl))
   | false =>
    have f14 : a.tmps[14]?.getD undef = pt bc 0 := sf hk 4
    have hx := (hS.box (sg (hs 0 (by decide)))).cell
    exact rq (.int .i64 row) (wanted_yes rfl rfl rfl (sv hk 3)) (by simp [execOp, Act.eval, f14, go_sem, hx]) hl hs hS
  apply sc
  ·intro a w' vs σ hS hl hs hk
   cases b1 with
   | true =>
    exact rs_skip (wanted_no rfl rfl rfl (sv hk 3) (by simp)) (sp_same (by kernel_rfl) hl hs hS (show undef = _ from rfl))
   | false =>
    have f0 : a.tmps[0]?.getD undef = pt p 0 := sof hk
    exact rq (pt p 0) (wanted_yes rfl rfl rfl (sv hk 3)) (by simp [execOp, Act.eval, f0, go_sem]) hl hs hS
  apply sc
  ·intro a w' vs σ hS hl hs hk
   cases b1 with
   | true =>
    exact rs_skip (wanted_no rfl rfl rfl (sv hk 3) (by simp)) (sp_same (by kernel_rfl) hl hs hS (show undef = _ from rfl))
   | false =>
    have e16 : a.tmps.getD 16 undef = pt p 0 := sv hk 6
    exact ro_call (f := 17) (wanted_yes rfl rfl rfl (sv hk 3)) rfl (by simp only [List.map_toArray, List.map_cons, List.map_nil, Act.eval, e16] <;> rfl) (fun _ _ => by kernel_rfl) ((Rows_any hS (tg hl HK.out)).mono fun e w2 ⟨h1, h2⟩ => ⟨_, h1, sp_same (by kernel_rfl) hl hs h2 rfl, trivial⟩)
  apply sc
  ·intro a w' vs σ hS hl hs hk
   cases b1 with
   | true =>
    exact rs_skip (wanted_no rfl rfl rfl (sv hk 3) (by simp)) (sp_same (by kernel_rfl) hl hs hS (show undef = _ from rfl))
   | false =>
    have f15 : a.tmps[15]?.getD undef = .int .i64 row := sf hk 5
    have f17 : a.tmps[17]?.getD undef = .int .i64 L.length := sf hk 7
    exact rq (.bool b2) (wanted_yes rfl rfl rfl (sv hk 3)) (by simp [execOp, Act.eval, f15, f17, go_sem, H2.out]) hl hs hS
  apply sc
  ·intro a w' vs σ hS hl hs hk
   cases b1 with
   | true =>
    have e13 : a.tmps.getD 13 undef = .bool true := sv hk 3
    have f13 := gd e13
    have e18 : a.tmps.getD 18 undef = (undef : Value) := sv hk 8
    have f18 := gd e18
    exact rp (.bool (true || b2)) (by simp [execOp, Act.eval, e13, f13, e18, f18, go_sem]) hl hs hS
   | false =>
    have e13 : a.tmps.getD 13 undef = .bool false := sv hk 3
    have f13 := gd e13
    have e18 : a.tmps.getD 18 undef = .bool b2 := sv hk 8
    have f18 := gd e18
    exact rp (.bool (false || b2)) (by simp [execOp, Act.eval, e13, f13, e18, f18, go_sem]) hl hs hS
  apply sc
  ·intro a w' vs σ hS hl hs hk
   have f19 : a.tmps[19]?.getD undef = .bool (b1 || b2) := sf hk 9
   exact rp (.bool (b1 || b2)) (by simp [execOp, Act.eval, f19, go_sem]) hl hs hS
  apply sc
  ·intro a w' vs σ hS hl hs hk
   cases b1 with
   | true =>
    exact rs_skip (wanted_no rfl rfl rfl (sv hk 10) (by simp)) (sp_same (by kernel_rfl) hl hs hS (show undef = _ from rfl))
   | false =>
    cases b2 with
    | true =>
     exact rs_skip (wanted_no rfl rfl rfl (sv hk 10) (by simp)) (sp_same (by kernel_rfl) hl hs hS (show undef = _ from rfl))
    | false =>
     have f3 : a.tmps[3]?.getD undef = pt bc 0 := sof hk
     exact rq (pt bc 1) (wanted_yes rfl rfl rfl (sv hk 10)) (by simp [execOp, Act.eval, f3, go_sem]) hl hs hS
  apply sc
  ·intro a w' vs σ hS hl hs hk
   cases b1 with
   | true =>
    exact rs_skip (wanted_no rfl rfl rfl (sv hk 10) (by simp)) (sp_same (by kernel_rfl) hl hs hS (show undef = _ from rfl))
   | false =>
    cases b2 with
    | true =>
     exact rs_skip (wanted_no rfl rfl rfl (sv hk 10) (by simp)) (sp_same (by kernel_rfl) hl hs hS (show undef = _ from rfl))
    | false =>
     have f21 : a.tmps[21]?.getD undef = pt bc 1 := sf hk 11
     have hx := (hS.box (sg (hs 0 (by decide)))).cell
     exact rq (.int .i64 col) (wanted_yes rfl rfl rfl (sv hk 10)) (by simp [execOp, Act.eval, f21, go_sem, hx]) hl hs hS
  apply sc
  ·intro a w' vs σ hS hl hs hk
   cases b1 with
   | true =>
    exact rs_skip (wanted_no rfl rfl rfl (sv hk 10) (by simp)) (sp_same (by kernel_rfl) hl hs hS (show undef = _ from rfl))
   | false =>
    cases b2 with
    | true =>
     exact rs_skip (wanted_no rfl rfl rfl (sv hk 10) (by simp)) (sp_same (by kernel_rfl) hl hs hS (show undef = _ from rfl))
    | false =>
     have f22 : a.tmps[22]?.getD undef = .int .i64 col := sf hk 12
     exact rq (.bool b3) (wanted_yes rfl rfl rfl (sv hk 10)) (by simp [execOp, Act.eval, f22, go_sem, H3.out]) hl hs hS
  apply sc
  ·intro a w' vs σ hS hl hs hk
   cases b1 with
   | true =>
    cases b2 with
    | true =>
     have e20 : a.tmps.getD 20 undef = .bool (true || true) := sv hk 10
     have f20 := gd e20
     have e23 : a.tmps.getD 23 undef = (undef : Value) := sv hk 13
     have f23 := gd e23
     exact rp (.bool (true || true || b3)) (by simp [execOp, Act.eval, e20, f20, e23, f23, go_sem]) hl hs hS
    | false =>
     have e20 : a.tmps.getD 20 undef = .bool (true || false) := sv hk 10
     have f20 := gd e20
     have e23 : a.tmps.getD 23 undef = (undef : Value) := sv hk 13
     have f23 := gd e23
     exact rp (.bool (true || false || b3)) (by simp [execOp, Act.eval, e20, f20, e23, f23, go_sem]) hl hs hS
   | false =>
    cases b2 with
    | true =>
     have e20 : a.tmps.getD 20 undef = .bool (false || true) := sv hk 10
     have f20 := gd e20
     have e23 : a.tmps.getD 23 undef = (undef : Value) := sv hk 13
     have f23 := gd e23
     exact rp (.bool (false || true || b3)) (by simp [execOp, Act.eval, e20, f20, e23, f23, go_sem]) hl hs hS
    | false =>
     have e20 : a.tmps.getD 20 undef = .bool (false || false) := sv hk 10
     have f20 := gd e20
     have e23 : a.tmps.getD 23 undef = .bool b3 := sv hk 13
     have f23 := gd e23
     exact rp (.bool (false || false || b3)) (by simp [execOp, Act.eval, e20, f20, e23, f23, go_sem]) hl hs hS
  apply sc
  ·intro a w' vs σ hS hl hs hk
   have f24 : a.tmps[24]?.getD undef = .bool (b1 || b2 || b3) := sf hk 14
   exact rp (.bool (b1 || b2 || b3)) (by simp [execOp, Act.eval, f24, go_sem]) hl hs hS
  apply sc
  ·intro a w' vs σ hS hl hs hk
   cases b1 with
   | true =>
    exact rs_skip (wanted_no rfl rfl rfl (sv hk 15) (by simp)) (sp_same (by kernel_rfl) hl hs hS (show undef = _ from rfl))
   | false =>
    cases b2 with
    | true =>
     exact rs_skip (wanted_no rfl rfl rfl (sv hk 15) (by simp)) (sp_same (by kernel_rfl) hl hs hS (show undef = _ from rfl))
    | false =>
     cases b3 with
     | true =>
      exact rs_skip (wanted_no rfl rfl rfl (sv hk 15) (by simp)) (sp_same (by kernel_rfl) hl hs hS (show undef = _ from rfl))
     | false =>
      have f3 : a.tmps[3]?.getD undef = pt bc 0 := sof hk
      exact rq (pt bc 1) (wanted_yes rfl rfl rfl (sv hk 15)) (by simp [execOp, Act.eval, f3, go_sem]) hl hs hS
  apply sc
  ·intro a w' vs σ hS hl hs hk
   cases b1 with
   | true =>
    exact rs_skip (wanted_no rfl rfl rfl (sv hk 15) (by simp)) (sp_same (by kernel_rfl) hl hs hS (show undef = _ from rfl))
   | false =>
    cases b2 with
    | true =>
     exact rs_skip (wanted_no rfl rfl rfl (sv hk 15) (by simp)) (sp_same (by kernel_rfl) hl hs hS (show undef = _ from rfl))
    | false =>
     cases b3 with
     | true =>
      exact rs_skip (wanted_no rfl rfl rfl (sv hk 15) (by simp)) (sp_same (by kernel_rfl) hl hs hS (show undef = _ from rfl))
     | false =>
      have f26 : a.tmps[26]?.getD undef = pt bc 1 := sf hk 16
      have hx := (hS.box (sg (hs 0 (by decide)))).cell
      exact rq (.int .i64 col) (wanted_yes rfl rfl rfl (sv hk 15)) (by simp [execOp, Act.eval, f26, go_sem, hx]) hl hs hS
  apply sc
  ·intro a w' vs σ hS hl hs hk
   cases b1 with
   | true =>
    exact rs_skip (wanted_no rfl rfl rfl (sv hk 15) (by simp)) (sp_same (by kernel_rfl) hl hs hS (show undef = _ from rfl))
   | false =>
    cases b2 with
    | true =>
     exact rs_skip (wanted_no rfl rfl rfl (sv hk 15) (by simp)) (sp_same (by kernel_rfl) hl hs hS (show undef = _ from rfl))
    | false =>
     cases b3 with
     | true =>
      exact rs_skip (wanted_no rfl rfl rfl (sv hk 15) (by simp)) (sp_same (by kernel_rfl) hl hs hS (show undef = _ from rfl))
     | false =>
      have f0 : a.tmps[0]?.getD undef = pt p 0 := sof hk
      exact rq (pt p 0) (wanted_yes rfl rfl rfl (sv hk 15)) (by simp [execOp, Act.eval, f0, go_sem]) hl hs hS
  apply sc
  ·intro a w' vs σ hS hl hs hk
   cases b1 with
   | true =>
    exact rs_skip (wanted_no rfl rfl rfl (sv hk 15) (by simp)) (sp_same (by kernel_rfl) hl hs hS (show undef = _ from rfl))
   | false =>
    cases b2 with
    | true =>
     exact rs_skip (wanted_no rfl rfl rfl (sv hk 15) (by simp)) (sp_same (by kernel_rfl) hl hs hS (show undef = _ from rfl))
    | false =>
     cases b3 with
     | true =>
      exact rs_skip (wanted_no rfl rfl rfl (sv hk 15) (by simp)) (sp_same (by kernel_rfl) hl hs hS (show undef = _ from rfl))
     | false =>
      have e28 : a.tmps.getD 28 undef = pt p 0 := sv hk 18
      exact ro_call (f := 18) (wanted_yes rfl rfl rfl (sv hk 15)) rfl (by simp only [List.map_toArray, List.map_cons, List.map_nil, Act.eval, e28] <;> rfl) (fun _ _ => by kernel_rfl) ((Cols_any hS (tg hl HK.out)).mono fun e w2 ⟨h1, h2⟩ => ⟨_, h1, sp_same (by kernel_rfl) hl hs h2 rfl, trivial⟩)
  apply sc
  ·intro a w' vs σ hS hl hs hk
   cases b1 with
   | true =>
    exact rs_skip (wanted_no rfl rfl rfl (sv hk 15) (by simp)) (sp_same (by kernel_rfl) hl hs hS (show undef = _ from rfl))
   | false =>
    cases b2 with
    | true =>
     exact rs_skip (wanted_no rfl rfl rfl (sv hk 15) (by simp)) (sp_same (by kernel_rfl) hl hs hS (show undef = _ from rfl))
    | false =>
     cases b3 with
     | true =>
      exact rs_skip (wanted_no rfl rfl rfl (sv hk 15) (by simp)) (sp_same (by kernel_rfl) hl hs hS (show undef = _ from rfl))
     | false =>
      have f27 : a.tmps[27]?.getD undef = .int .i64 col := sf hk 17
      have f29 : a.tmps[29]?.getD undef = .int .i64 ↑cols := sf hk 19
      exact rq (.bool b4) (wanted_yes rfl rfl rfl (sv hk 15)) (by simp [execOp, Act.eval, f27, f29, go_sem, H4.out]) hl hs hS
  apply sc
  ·intro a w' vs σ hS hl hs hk
   cases b1 with
   | true =>
    cases b2 with
    | true =>
     cases b3 with
     | true =>
      have e25 : a.tmps.getD 25 undef = .bool (true || true || true) := sv hk 15
      have f25 := gd e25
      have e30 : a.tmps.getD 30 undef = (undef : Value) := sv hk 20
      have f30 := gd e30
      exact rp (.bool (true || true || true || b4)) (by simp [execOp, Act.eval, e25, f25, e30, f30, go_sem]) hl hs hS
     | false =>
      have e25 : a.tmps.getD 25 undef = .bool (true || true || false) := sv hk 15
      have f25 := gd e25
      have e30 : a.tmps.getD 30 undef = (undef : Value) := sv hk 20
      have f30 := gd e30
      exact rp (.bool (true || true || false || b4)) (by simp [execOp, Act.eval, e25, f25, e30, f30, go_sem]) hl hs hS
    | false =>
     cases b3 with
     | true =>
      have e25 : a.tmps.getD 25 undef = .bool (true || false || true) := sv hk 15
      have f25 := gd e25
      have e30 : a.tmps.getD 30 undef = (undef : Value) := sv hk 20
      have f30 := gd e30
      exact rp (.bool (true || false || true || b4)) (by simp [execOp, Act.eval, e25, f25, e30, f30, go_sem]) hl hs hS
     | false =>
      have e25 : a.tmps.getD 25 undef = .bool (true || false || false) := sv hk 15
      have f25 := gd e25
      have e30 : a.tmps.getD 30 undef = (undef : Value) := sv hk 20
      have f30 := gd e30
      exact rp (.bool (true || false || false || b4)) (by simp [execOp, Act.eval, e25, f25, e30, f30, go_sem]) hl hs hS
   | false =>
    cases b2 with
    | true =>
     cases b3 with
     | true =>
      have e25 : a.tmps.getD 25 undef = .bool (false || true || true) := sv hk 15
      have f25 := gd e25
      have e30 : a.tmps.getD 30 undef = (undef : Value) := sv hk 20
      have f30 := gd e30
      exact rp (.bool (false || true || true || b4)) (by simp [execOp, Act.eval, e25, f25, e30, f30, go_sem]) hl hs hS
     | false =>
      have e25 : a.tmps.getD 25 undef = .bool (false || true || false) := sv hk 15
      have f25 := gd e25
      have e30 : a.tmps.getD 30 undef = (undef : Value) := sv hk 20
      have f30 := gd e30
      exact rp (.bool (false || true || false || b4)) (by simp [execOp, Act.eval, e25, f25, e30, f30, go_sem]) hl hs hS
    | false =>
     cases b3 with
     | true =>
      have e25 : a.tmps.getD 25 undef = .bool (false || false || true) := sv hk 15
      have f25 := gd e25
      have e30 : a.tmps.getD 30 undef = (undef : Value) := sv hk 20
      have f30 := gd e30
      exact rp (.bool (false || false || true || b4)) (by simp [execOp, Act.eval, e25, f25, e30, f30, go_sem]) hl hs hS
     | false =>
      have e25 : a.tmps.getD 25 undef = .bool (false || false || false) := sv hk 15
      have f25 := gd e25
      have e30 : a.tmps.getD 30 undef = .bool b4 := sv hk 20
      have f30 := gd e30
      exact rp (.bool (false || false || false || b4)) (by simp [execOp, Act.eval, e25, f25, e30, f30, go_sem]) hl hs hS
  apply sc
  ·intro a w' vs σ hS hl hs hk
   have f31 : a.tmps[31]?.getD undef = .bool (b1 || b2 || b3 || b4) := sf hk 21
   exact rp (.bool (b1 || b2 || b3 || b4)) (by simp [execOp, Act.eval, f31, go_sem]) hl hs hS
  apply sc
  ·intro a w' vs σ hS hl hs hk
   cases b1 with
   | true =>
    exact rs_skip (wanted_no rfl rfl rfl (sv hk 22) (by simp)) (sp_same (by kernel_rfl) hl hs hS (show undef = _ from rfl))
   | false =>
    cases b2 with
    | true =>
     exact rs_skip (wanted_no rfl rfl rfl (sv hk 22) (by simp)) (sp_same (by kernel_rfl) hl hs hS (show undef = _ from rfl))
    | false =>
     cases b3 with
     | true =>
      exact rs_skip (wanted_no rfl rfl rfl (sv hk 22) (by simp)) (sp_same (by kernel_rfl) hl hs hS (show undef = _ from rfl))
     | false =>
      cases b4 with
      | true =>
       exact rs_skip (wanted_no rfl rfl rfl (sv hk 22) (by simp)) (sp_same (by kernel_rfl) hl hs hS (show undef = _ from rfl))
      | false =>
       have f3 : a.tmps[3]?.getD undef = pt bc 0 := sof hk
       exact rq (pt bc 2) (wanted_yes rfl rfl rfl (sv hk 22)) (by simp [execOp, Act.eval, f3, go_sem]) hl hs hS
  apply sc
  ·intro a w' vs σ hS hl hs hk
   cases b1 with
   | true =>
    exact rs_skip (wanted_no rfl rfl rfl (sv hk 22) (by simp)) (sp_same (by kernel_rfl) hl hs hS (show undef = _ from rfl))
   | false =>
    cases b2 with
    | true =>
     exact rs_skip (wanted_no rfl rfl rfl (sv hk 22) (by simp)) (sp_same (by kernel_rfl) hl hs hS (show undef = _ from rfl))
    | false =>
     cases b3 with
     | true =>
      exact rs_skip (wanted_no rfl rfl rfl (sv hk 22) (by simp)) (sp_same (by kernel_rfl) hl hs hS (show undef = _ from rfl))
     | false =>
      cases b4 with
      | true =>
       exact rs_skip (wanted_no rfl rfl rfl (sv hk 22) (by simp)) (sp_same (by kernel_rfl) hl hs hS (show undef = _ from rfl))
      | false =>
       have f33 : a.tmps[33]?.getD undef = pt bc 2 := sf hk 23
       have hx := (hS.box (sg (hs 0 (by decide)))).cell
       exact rq (.bool b5) (wanted_yes rfl rfl rfl (sv hk 22)) (by simp [execOp, Act.eval, f33, go_sem, hx]) hl hs hS
  apply sc
  ·intro a w' vs σ hS hl hs hk
   cases b1 with
   | true =>
    exact rs_skip (wanted_no rfl rfl rfl (sv hk 22) (by simp)) (sp_same (by kernel_rfl) hl hs hS (show undef = _ from rfl))
   | false =>
    cases b2 with
    | true =>
     exact rs_skip (wanted_no rfl rfl rfl (sv hk 22) (by simp)) (sp_same (by kernel_rfl) hl hs hS (show undef = _ from rfl))
    | false =>
     cases b3 with
     | true =>
      exact rs_skip (wanted_no rfl rfl rfl (sv hk 22) (by simp)) (sp_same (by kernel_rfl) hl hs hS (show undef = _ from rfl))
     | false =>
      cases b4 with
      | true =>
       exact rs_skip (wanted_no rfl rfl rfl (sv hk 22) (by simp)) (sp_same (by kernel_rfl) hl hs hS (show undef = _ from rfl))
      | false =>
       have f34 : a.tmps[34]?.getD undef = .bool b5 := sf hk 24
       exact rq (.bool b5) (wanted_yes rfl rfl rfl (sv hk 22)) (by simp [execOp, Act.eval, f34, go_sem]) hl hs hS
  apply sc
  ·intro a w' vs σ hS hl hs hk
   cases b1 with
   | true =>
    exact rs_skip (wanted_undef rfl rfl rfl (sv hk 25)) (sp_same (by kernel_rfl) hl hs hS (show undef = _ from rfl))
   | false =>
    cases b2 with
    | true =>
     exact rs_skip (wanted_undef rfl rfl rfl (sv hk 25)) (sp_same (by kernel_rfl) hl hs hS (show undef = _ from rfl))
    | false =>
     cases b3 with
     | true =>
      exact rs_skip (wanted_undef rfl rfl rfl (sv hk 25)) (sp_same (by kernel_rfl) hl hs hS (show undef = _ from rfl))
     | false =>
      cases b4 with
      | true =>
       exact rs_skip (wanted_undef rfl rfl rfl (sv hk 25)) (sp_same (by kernel_rfl) hl hs hS (show undef = _ from rfl))
      | false =>
       cases b5 with
       | true =>
        have f3 : a.tmps[3]?.getD undef = pt bc 0 := sof hk
        exact rq (pt bc 1) (wanted_yes rfl rfl rfl (sv hk 25)) (by simp [execOp, Act.eval, f3, go_sem]) hl hs hS
       | false =>
        exact rs_skip (wanted_no rfl rfl rfl (sv hk 25) (by simp)) (sp_same (by kernel_rfl) hl hs hS (show undef = _ from rfl))
  apply sc
  ·intro a w' vs σ hS hl hs hk
   cases b1 with
   | true =>
    exact rs_skip (wanted_undef rfl rfl rfl (sv hk 25)) (sp_same (by kernel_rfl) hl hs hS (show undef = _ from rfl))
   | false =>
    cases b2 with
    | true =>
     exact rs_skip (wanted_undef rfl rfl rfl (sv hk 25)) (sp_same (by kernel_rfl) hl hs hS (show undef = _ from rfl))
    | false =>
     cases b3 with
     | true =>
      exact rs_skip (wanted_undef rfl rfl rfl (sv hk 25)) (sp_same (by kernel_rfl) hl hs hS (show undef = _ from rfl))
     | false =>
      cases b4 with
      | true =>
       exact rs_skip (wanted_undef rfl rfl rfl (sv hk 25)) (sp_same (by kernel_rfl) hl hs hS (show undef = _ from rfl))
      | false =>
       cases b5 with
       | true =>
        have f36 : a.tmps[36]?.getD undef = pt bc 1 := sf hk 26
        have hx := (hS.box (sg (hs 0 (by decide)))).cell
        exact rq (.int .i64 col) (wanted_yes rfl rfl rfl (sv hk 25)) (by simp [execOp, Act.eval, f36, go_sem, hx]) hl hs hS
       | false =>
        exact rs_skip (wanted_no rfl rfl rfl (sv hk 25) (by simp)) (sp_same (by kernel_rfl) hl hs hS (show undef = _ from rfl))
  apply sc
  ·intro a w' vs σ hS hl hs hk
   cases b1 with
   | true =>
    exact rs_skip (wanted_undef rfl rfl rfl (sv hk 25)) (sp_same (by kernel_rfl) hl hs hS (show undef = _ from rfl))
   | false =>
    cases b2 with
    | true =>
     exact rs_skip (wanted_undef rfl rfl rfl (sv hk 25)) (sp_same (by kernel_rfl) hl hs hS (show undef = _ from rfl))
    | false =>
     cases b3 with
     | true =>
      exact rs_skip (wanted_undef rfl rfl rfl (sv hk 25)) (sp_same (by kernel_rfl) hl hs hS (show undef = _ from rfl))
     | false =>
      cases b4 with
      | true =>
       exact rs_skip (wanted_undef rfl rfl rfl (sv hk 25)) (sp_same (by kernel_rfl) hl hs hS (show undef = _ from rfl))
      | false =>
       cases b5 with
       | true =>
        have f0 : a.tmps[0]?.getD undef = pt p 0 := sof hk
        exact rq (pt p 0) (wanted_yes rfl rfl rfl (sv hk 25)) (by simp [execOp, Act.eval, f0, go_sem]) hl hs hS
       | false =>
        exact rs_skip (wanted_no rfl rfl rfl (sv hk 25) (by simp)) (sp_same (by kernel_rfl) hl hs hS (show undef = _ from rfl))
  apply sc
  ·intro a w' vs σ hS hl hs hk
   cases b1 with
   | true =>
    exact rs_skip (wanted_undef rfl rfl rfl (sv hk 25)) (sp_same (by kernel_rfl) hl hs hS (show undef = _ from rfl))
   | false =>
    cases b2 with
    | true =>
     exact rs_skip (wanted_undef rfl rfl rfl (sv hk 25)) (sp_same (by kernel_rfl) hl hs hS (show undef = _ from rfl))
    | false =>
     cases b3 with
     | true =>
      exact rs_skip (wanted_undef rfl rfl rfl (sv hk 25)) (sp_same (by kernel_rfl) hl hs hS (show undef = _ from rfl))
     | false =>
      cases b4 with
      | true =>
       exact rs_skip (wanted_undef rfl rfl rfl (sv hk 25)) (sp_same (by kernel_rfl) hl hs hS (show undef = _ from rfl))
      | false =>
       cases b5 with
       | true =>
        have e38 : a.tmps.getD 38 undef = pt p 0 := sv hk 28
        exact ro_call (f := 18) (wanted_yes rfl rfl rfl (sv hk 25)) rfl (by simp only [List.map_toArray, List.map_cons, List.map_nil, Act.eval, e38] <;> rfl) (fun _ _ => by kernel_rfl) ((Cols_any hS (tg hl HK.out)).mono fun e w2 ⟨h1, h2⟩ => ⟨_, h1, sp_same (by kernel_rfl) hl hs h2 rfl, trivial⟩)
       | false =>
        exact rs_skip (wanted_no rfl rfl rfl (sv hk 25) (by simp)) (sp_same (by kernel_rfl) hl hs hS (show undef = _ from rfl))
  apply sc
  ·intro a w' vs σ hS hl hs hk
   cases b1 with
   | true =>
    exact rs_skip (wanted_undef rfl rfl rfl (sv hk 25)) (sp_same (by kernel_rfl) hl hs hS (show undef = _ from rfl))
   | false =>
    cases b2 with
    | true =>
     exact rs_skip (wanted_undef rfl rfl rfl (sv hk 25)) (sp_same (by kernel_rfl) hl hs hS (show undef = _ from rfl))
    | false =>
     cases b3 with
     | true =>
      exact rs_skip (wanted_undef rfl rfl rfl (sv hk 25)) (sp_same (by kernel_rfl) hl hs hS (show undef = _ from rfl))
     | false =>
      cases b4 with
      | true =>
       exact rs_skip (wanted_undef rfl rfl rfl (sv hk 25)) (sp_same (by kernel_rfl) hl hs hS (show undef = _ from rfl))
      | false =>
       cases b5 with
       | true =>
        have f39 : a.tmps[39]?.getD undef = .int .i64 ↑cols := sf hk 29
        exact rq (.int .i64 (↑cols - 1)) (wanted_yes rfl rfl rfl (sv hk 25)) (by simp [execOp, Act.eval, f39, go_sem, HWC.out]) hl hs hS
       | false =>
        exact rs_skip (wanted_no rfl rfl rfl (sv hk 25) (by simp)) (sp_same (by kernel_rfl) hl hs hS (show undef = _ from rfl))
  apply sc
  ·intro a w' vs σ hS hl hs hk
   cases b1 with
   | true =>
    exact rs_skip (wanted_undef rfl rfl rfl (sv hk 25)) (sp_same (by kernel_rfl) hl hs hS (show undef = _ from rfl))
   | false =>
    cases b2 with
    | true =>
     exact rs_skip (wanted_undef rfl rfl rfl (sv hk 25)) (sp_same (by kernel_rfl) hl hs hS (show undef = _ from rfl))
    | false =>
     cases b3 with
     | true =>
      exact rs_skip (wanted_undef rfl rfl rfl (sv hk 25)) (sp_same (by kernel_rfl) hl hs hS (show undef = _ from rfl))
     | false =>
      cases b4 with
      | true =>
       exact rs_skip (wanted_undef rfl rfl rfl (sv hk 25)) (sp_same (by kernel_rfl) hl hs hS (show undef = _ from rfl))
      | false =>
       cases b5 with
       | true =>
        have f37 : a.tmps[37]?.getD undef = .int .i64 col := sf hk 27
        have f40 : a.tmps[40]?.getD undef = .int .i64 (↑cols - 1) := sf hk 30
        exact rq (.bool b6) (wanted_yes rfl rfl rfl (sv hk 25)) (by simp [execOp, Act.eval, f37, f40, go_sem, H6.out]) hl hs hS
       | false =>
        exact rs_skip (wanted_no rfl rfl rfl (sv hk 25) (by simp)) (sp_same (by kernel_rfl) hl hs hS (show undef = _ from rfl))
  apply sc
  ·intro a w' vs σ hS hl hs hk
   cases b1 with
   | true =>
    exact rs_skip (wanted_no rfl rfl rfl (sv hk 22) (by simp)) (sp_same (by kernel_rfl) hl hs hS (show undef = _ from rfl))
   | false =>
    cases b2 with
    | true =>
     exact rs_skip (wanted_no rfl rfl rfl (sv hk 22) (by simp)) (sp_same (by kernel_rfl) hl hs hS (show undef = _ from rfl))
    | false =>
     cases b3 with
     | true =>
      exact rs_skip (wanted_no rfl rfl rfl (sv hk 22) (by simp)) (sp_same (by kernel_rfl) hl hs hS (show undef = _ from rfl))
     | false =>
      cases b4 with
      | true =>
       exact rs_skip (wanted_no rfl rfl rfl (sv hk 22) (by simp)) (sp_same (by kernel_rfl) hl hs hS (show undef = _ from rfl))
      | false =>
       cases b5 with
       | true =>
        have e35 : a.tmps.getD 35 undef = .bool true := sv hk 25
        have f35 := gd e35
        have e41 : a.tmps.getD 41 undef = .bool b6 := sv hk 31
        have f41 := gd e41
        exact rq (.bool (true && b6)) (wanted_yes rfl rfl rfl (sv hk 22)) (by simp [execOp, Act.eval, e35, f35, e41, f41, go_sem]) hl hs hS
       | false =>
        have e35 : a.tmps.getD 35 undef = .bool false := sv hk 25
        have f35 := gd e35
        have e41 : a.tmps.getD 41 undef = (undef : Value) := sv hk 31
        have f41 := gd e41
        exact rq (.bool (false && b6)) (wanted_yes rfl rfl rfl (sv hk 22)) (by simp [execOp, Act.eval, e35, f35, e41, f41, go_sem]) hl hs hS
  apply sc
  ·intro a w' vs σ hS hl hs hk
   cases b1 with
   | true =>
    cases b2 with
    | true =>
     cases b3 with
     | true =>
      cases b4 with
      | true =>
       have e32 : a.tmps.getD 32 undef = .bool (true || true || true || true) := sv hk 22
       have f32 := gd e32
       have e42 : a.tmps.getD 42 undef = (undef : Value) := sv hk 32
       have f42 := gd e42
       exact rp (.bool (true || true || true || true || (b5 && b6))) (by simp [execOp, Act.eval, e32, f32, e42, f42, go_sem]) hl hs hS
      | false =>
       have e32 : a.tmps.getD 32 undef = .bool (true || true || true || false) := sv hk 22
       have f32 := gd e32
       have e42 : a.tmps.getD 42 undef = (undef : Value) := sv hk 32
       have f42 := gd e42
       exact rp (.bool (true || true || true || false || (b5 && b6))) (by simp [execOp, Act.eval, e32, f32, e42, f42, go_sem]) hl hs hS
     | false =>
      cases b4 with
      | true =>
       have e32 : a.tmps.getD 32 undef = .bool (true || true || false || true) := sv hk 22
       have f32 := gd e32
       have e42 : a.tmps.getD 42 undef = (undef : Value) := sv hk 32
       have f42 := gd e42
       exact rp (.bool (true || true || false || true || (b5 && b6))) (by simp [execOp, Act.eval, e32, f32, e42, f42, go_sem]) hl hs hS
      | false =>
       have e32 : a.tmps.getD 32 undef = .bool (true || true || false || false) := sv hk 22
       have f32 := gd e32
       have e42 : a.tmps.getD 42 undef = (undef : Value) := sv hk 32
       have f42 := gd e42
       exact rp (.bool (true || true || false || false || (b5 && b6))) (by simp [execOp, Act.eval, e32, f32, e42, f42, go_sem]) hl hs hS
    | false =>
     cases b3 with
     | true =>
      cases b4 with
      | true =>
       have e32 : a.tmps.getD 32 undef = .bool (true || false || true || true) := sv hk 22
       have f32 := gd e32
       have e42 : a.tmps.getD 42 undef = (undef : Value) := sv hk 32
       have f42 := gd e42
       exact rp (.bool (true || false || true || true || (b5 && b6))) (by simp [execOp, Act.eval, e32, f32, e42, f42, go_sem]) hl hs hS
      | false =>
       have e32 : a.tmps.getD 32 undef = .bool (true || false || true || false) := sv hk 22
       have f32 := gd e32
       have e42 : a.tmps.getD 42 undef = (undef : Value) := sv hk 32
       have f42 := gd e42
       exact rp (.bool (true || false || true || false || (b5 && b6))) (by simp [execOp, Act.eval, e32, f32, e42, f42, go_sem]) hl hs hS
     | false =>
      cases b4 with
      | true =>
       have e32 : a.tmps.getD 32 undef = .bool (true || false || false || true) := sv hk 22
       have f32 := gd e32
       have e42 : a.tmps.getD 42 undef = (undef : Value) := sv hk 32
       have f42 := gd e42
       exact rp (.bool (true || false || false || true || (b5 && b6))) (by simp [execOp, Act.eval, e32, f32, e42, f42, go_sem]) hl hs hS
      | false =>
       have e32 : a.tmps.getD 32 undef = .bool (true || false || false || false) := sv hk 22
       have f32 := gd e32
       have e42 : a.tmps.getD 42 undef = (undef : Value) := sv hk 32
       have f42 := gd e42
       exact rp (.bool (true || false || false || false || (b5 && b6))) (by simp [execOp, Act.eval, e32, f32, e42, f42, go_sem]) hl hs hS
   | false =>
    cases b2 with
    | true =>
     cases b3 with
     | true =>
      cases b4 with
      | true =>
       have e32 : a.tmps.getD 32 undef = .bool (false || true || true || true) := sv hk 22
       have f32 := gd e32
       have e42 : a.tmps.getD 42 undef = (undef : Value) := sv hk 32
       have f42 := gd e42
       exact rp (.bool (false || true || true || true || (b5 && b6))) (by simp [execOp, Act.eval, e32, f32, e42, f42, go_sem]) hl hs hS
      | false =>
       have e32 : a.tmps.getD 32 undef = .bool (false || true || true || false) := sv hk 22
       have f32 := gd e32
       have e42 : a.tmps.getD 42 undef = (undef : Value) := sv hk 32
       have f42 := gd e42
       exact rp (.bool (false || true || true || false || (b5 && b6))) (by simp [execOp, Act.eval, e32, f32, e42, f42, go_sem]) hl hs hS
     | false =>
      cases b4 with
      | true =>
       have e32 : a.tmps.getD 32 undef = .bool (false || true || false || true) := sv hk 22
       have f32 := gd e32
       have e42 : a.tmps.getD 42 undef = (undef : Value) := sv hk 32
       have f42 := gd e42
       exact rp (.bool (false || true || false || true || (b5 && b6))) (by simp [execOp, Act.eval, e32, f32, e42, f42, go_sem]) hl hs hS
      | false =>
       have e32 : a.tmps.getD 32 undef = .bool (false || true || false || false) := sv hk 22
       have f32 := gd e32
       have e42 : a.tmps.getD 42 undef = (undef : Value) := sv hk 32
       have f42 := gd e42
       exact rp (.bool (false || true || false || false || (b5 && b6))) (by simp [execOp, Act.eval, e32, f32, e42, f42, go_sem]) hl hs hS
    | false =>
     cases b3 with
     | true =>
      cases b4 with
      | true =>
       have e32 : a.tmps.getD 32 undef = .bool (false || false || true || true) := sv hk 22
       have f32 := gd e32
       have e42 : a.tmps.getD 42 undef = (undef : Value) := sv hk 32
       have f42 := gd e42
       exact rp (.bool (false || false || true || true || (b5 && b6))) (by simp [execOp, Act.eval, e32, f32, e42, f42, go_sem]) hl hs hS
      | false =>
       have e32 : a.tmps.getD 32 undef = .bool (false || false || true || false) := sv hk 22
       have f32 := gd e32
       have e42 : a.tmps.getD 42 undef = (undef : Value) := sv hk 32
       have f42 := gd e42
       exact rp (.bool (false || false || true || false || (b5 && b6))) (by simp [execOp, Act.eval, e32, f32, e42, f42, go_sem]) hl hs hS
     | false =>
      cases b4 with
      | true =>
       have e32 : a.tmps.getD 32 undef = .bool (false || false || false || true) := sv hk 22
       have f32 := gd e32
       have e42 : a.tmps.getD 42 undef = (undef : Value) := sv hk 32
       have f42 := gd e42
       exact rp (.bool (false || false || false || true || (b5 && b6))) (by simp [execOp, Act.eval, e32, f32, e42, f42, go_sem]) hl hs hS
      | false =>
       have e32 : a.tmps.getD 32 undef = .bool (false || false || false || false) := sv hk 22
       have f32 := gd e32
       have e42 : a.tmps.getD 42 undef = .bool (b5 && b6) := sv hk 32
       have f42 := gd e42
       exact rp (.bool (false || false || false || false || (b5 && b6))) (by simp [execOp, Act.eval, e32, f32, e42, f42, go_sem]) hl hs hS
  apply sc
  ·intro a w' vs σ hS hl hs hk
   have f43 : a.tmps[43]?.getD undef = .bool (b1 || b2 || b3 || b4 || (b5 && b6)) := sf hk 33
   exact rp (.bool (b1 || b2 || b3 || b4 || (b5 && b6))) (by simp [execOp, Act.eval, f43, go_sem]) hl hs hS
  exact SSteps.nil
 ·intro vs w' hS hv
  have q0 : vs 0 = _ := hv 0 (by decide)
  have q1 : vs 1 = _ := hv 1 (by decide)
  have q2 : vs 2 = _ := hv 2 (by decide)
  have q3 : vs 3 = _ := hv 3 (by decide)
  have q4 : vs 4 = _ := hv 4 (by decide)
  have q5 : vs 5 = _ := hv 5 (by decide)
  have q6 : vs 6 = _ := hv 6 (by decide)
  have q7 : vs 7 = _ := hv 7 (by decide)
  have q8 : vs 8 = _ := hv 8 (by decide)
  have q9 : vs 9 = _ := hv 9 (by decide)
  have q10 : vs 10 = _ := hv 10 (by decide)
  have q11 : vs 11 = _ := hv 11 (by decide)
  have q12 : vs 12 = _ := hv 12 (by decide)
  have q13 : vs 13 = _ := hv 13 (by decide)
  have q14 : vs 14 = _ := hv 14 (by decide)
  have q15 : vs 15 = _ := hv 15 (by decide)
  have q16 : vs 16 = _ := hv 16 (by decide)
  have q17 : vs 17 = _ := hv 17 (by decide)
  have q18 : vs 18 = _ := hv 18 (by decide)
  have q19 : vs 19 = _ := hv 19 (by decide)
  have q20 : vs 20 = _ := hv 20 (by decide)
  have q21 : vs 21 = _ := hv 21 (by decide)
  have q22 : vs 22 = _ := hv 22 (by decide)
  have q23 : vs 23 = _ := hv 23 (by decide)
  have q24 : vs 24 = _ := hv 24 (by decide)
  have q25 : vs 25 = _ := hv 25 (by decide)
  have q26 : vs 26 = _ := hv 26 (by decide)
  have q27 : vs 27 = _ := hv 27 (by decide)
  have q28 : vs 28 = _ := hv 28 (by decide)
  have q29 : vs 29 = _ := hv 29 (by decide)
  have q30 : vs 30 = _ := hv 30 (by decide)
  have q31 : vs 31 = _ := hv 31 (by decide)
  have q32 : vs 32 = _ := hv 32 (by decide)
  have q33 : vs 33 = _ := hv 33 (by decide)
  have q34 : vs 34 = _ := hv 34 (by decide)
  have S2 := Lib.hid hS
  simp only [putL, Act.put, Nat.zero_add, Nat.reduceAdd, List.setIfInBounds_toArray, List.set_cons_succ, List.set_cons_zero, q0, q1, q2, q3, q4, q5, q6, q7, q8, q9, q10, q11, q12, q13, q14, q15, q16, q17, q18, q19, q20, q21, q22, q23, q24, q25, q26, q27, q28, q29, q30, q31, q32, q33, q34]
  clear hS hv q0 q1 q2 q3 q4 q5 q6 q7 q8 q9 q10 q11 q12 q13 q14 q15 q16 q17 q18 q19 q20 q21 q22 q23 q24 q25 q26 q27 q28 q29 q30 q31 q32 q33 q34
  have HB := HE
  obtain ⟨B, hB⟩ : ∃ B, (b1 || b2 || b3 || b4 || (b5 && b6)) = B := ⟨_, rfl⟩
  rw [hB] at HE ⊢
  cases B with
  | true =>
   go_wp2_with fail
   go_ret
   exact ⟨by rw [HE.out]; rfl, S2.out.tail⟩
  | false =>
   go_wp2_with fail
   go_ret
   exact ⟨by rw [HE.out]; rfl, S2.out.tail⟩
end
end Go.Proofs.YtppijfjigcoifaaDoor

namespace Go.Proofs.YtppijfjigcoifaaDoor
open Go.RowKit

def wrapB (cols : Nat) (col : Int) (pend auto : Bool) (n : Int) : Bool := auto && (pend || (decide (n = 2) && decide (1 < cols) && decide (col = (cols : Int) - 1)))
section
variable {w0 w : World} {os : List Ob} {k p cols : Nat} {L : List Ln}
set_option maxHeartbeats 4000000 in
theorem prwraps_any (row col : Int) (pend auto : Bool) (n : Int) (hS : Objs w0 w os) (hk : os[k]? = some (.grid p 58 cols L)) (hc : 0 < cols) (hcm : cols ≤ 1000) :
  Calls Tryd.prog 77 #[.pointer (some ⟨p, 0, none⟩), .agg #[.int .i64 row, .int .i64 col, .bool pend], .int .i64 n, .bool auto] w fun e w' => e = .returned (.bool (wrapB cols col pend auto n)) ∧ Objs w0 w' os := by
 have S0 := Lib.hid hS
 have HK := Lib.hid hk
 have HWC := Lib.hid (show IntKind.i64.wrap ((cols : Int) - 1) = (cols : Int) - 1 from IntWalk.i64_in _ (by omega))
 clear hS hk
 cases auto with
 | false =>
  have HV := Lib.hid (show wrapB cols col pend false n = false by simp [wrapB])
  go_enter Tryd.func77, Tryd.ntmps77
  go_upto_region 1 with (fail)
  refine at_objsC S0.out.alloc1 (fun W hW => ?_)
  generalize w.heap.size = bc at hW ⊢
  have S1 := Lib.hid hW
  clear hW S0
  go_wp2_with fail
  refine (Cols_any S1.out (k := k + 1) HK.out).mono ?_
  rintro e w1 ⟨rfl, hS⟩
  have S2 := Lib.hid hS
  obtain ⟨hxc, hfc, hzc⟩ := (hS.box (k := 0) rfl).facts
  clear hS S1
  have hwc := HWC.out
  go_wp2_with fail
  go_ret
  exact ⟨by rw [HV.out]; rfl, S2.out.tail⟩
 | true =>
 cases pend with
 | true =>
  have HV := Lib.hid (show wrapB cols col true true n = true by simp [wrapB])
  go_enter Tryd.func77, Tryd.ntmps77
  go_upto_region 1 with (fail)
  refine at_objsC S0.out.alloc1 (fun W hW => ?_)
  generalize w.heap.size = bc at hW ⊢
  have S1 := Lib.hid hW
  clear hW S0
  go_wp2_with fail
  refine (Cols_any S1.out (k := k + 1) HK.out).mono ?_
  rintro e w1 ⟨rfl, hS⟩
  have S2 := Lib.hid hS
  obtain ⟨hxc, hfc, hzc⟩ := (hS.box (k := 0) rfl).facts
  clear hS S1
  have hwc := HWC.out
  go_wp2_with fail
  go_ret
  exact ⟨by rw [HV.out]; rfl, S2.out.tail⟩
 | false =>
 by_cases h2 : n = 2
 case neg =>
  have hb2 := beq_no h2
  have HV := Lib.hid (show wrapB cols col false true n = false by simp [wrapB, h2])
  clear h2
  go_enter Tryd.func77, Tryd.ntmps77
  go_upto_region 1 with (fail)
  refine at_objsC S0.out.alloc1 (fun W hW => ?_)
  generalize w.heap.size = bc at hW ⊢
  have S1 := Lib.hid hW
  clear hW S0
  go_wp2_with fail
  refine (Cols_any S1.out (k := k + 1) HK.out).mono ?_
  rintro e w1 ⟨rfl, hS⟩
  have S2 := Lib.hid hS
  obtain ⟨hxc, hfc, hzc⟩ := (hS.box (k := 0) rfl).facts
  clear hS S1
  have hwc := HWC.out
  go_wp2_with fail
  go_ret
  exact ⟨by rw [HV.out]; rfl, S2.out.tail⟩
 subst h2
 by_cases h3 : 1 < cols
 case neg =>
  have HV := Lib.hid (show wrapB cols col false true 2 = false by simp [wrapB, h3])
  have d3 : decide ((0 : Int) < (cols : Int) - 1) = false := decide_eq_false (by omega)
  have d4 : decide ((1 : Int) < (cols : Int)) = false := decide_eq_false (by omega)
  have d5 : decide (1 < cols) = false := decide_eq_false (by omega)
  go_enter Tryd.func77, Tryd.ntmps77
  go_upto_region 1 with (fail)
  refine at_objsC S0.out.alloc1 (fun W hW => ?_)
  generalize w.heap.size = bc at hW ⊢
  have S1 := Lib.hid hW
  clear hW S0
  go_wp2_with fail
  refine (Cols_any S1.out (k := k + 1) HK.out).mono ?_
  rintro e w1 ⟨rfl, hS⟩
  have S2 := Lib.hid hS
  obtain ⟨hxc, hfc, hzc⟩ := (hS.box (k := 0) rfl).facts
  clear hS S1
  have hwc := HWC.out
  go_wp2_with fail
  go_ret
  exact ⟨by rw [HV.out]; rfl, S2.out.tail⟩
 by_cases h4 : col = (cols : Int) - 1
 case neg =>
  have hb4 := beq_no h4
  have HV := Lib.hid (show wrapB cols col false true 2 = false by simp [wrapB, h4])
  clear h4
  have d3 : decide ((0 : Int) < (cols : Int) - 1) = true := decide_eq_true (by omega)
  have d4 : decide ((1 : Int) < (cols : Int)) = true := decide_eq_true (by omega)
  have d5 : decide (1 < cols) = true := decide_eq_true (by omega)
  go_enter Tryd.func77, Tryd.ntmps77
  go_upto_region 1 with (fail)
  refine at_objsC S0.out.alloc1 (fun W hW => ?_)
  generalize w.heap.size = bc at hW ⊢
  have S1 := Lib.hid hW
  clear hW S0
  go_wp2_with fail
  refine (Cols_any S1.out (k := k + 1) HK.out).mono ?_
  rintro e w1 ⟨rfl, hS⟩
  have S2 := Lib.hid hS
  obtain ⟨hxc, hfc, hzc⟩ := (hS.box (k := 0) rfl).facts
  clear hS S1
  have hwc := HWC.out
  go_wp2_with fail
  go_ret
  exact ⟨by rw [HV.out]; rfl, S2.out.tail⟩
 have hb4 := beq_yes h4
 have HV := Lib.hid (show wrapB cols col false true 2 = true by simp [wrapB, h3, h4])
 clear h4
 have d3 : decide ((0 : Int) < (cols : Int) - 1) = true := decide_eq_true (by omega)
 have d4 : decide ((1 : Int) < (cols : Int)) = true := decide_eq_true (by omega)
 have d5 : decide (1 < cols) = true := decide_eq_true (by omega)
 go_enter Tryd.func77, Tryd.ntmps77
 go_upto_region 1 with (fail)
 refine at_objsC S0.out.alloc1 (fun W hW => ?_)
 generalize w.heap.size = bc at hW ⊢
 have S1 := Lib.hid hW
 clear hW S0
 go_wp2_with fail
 refine (Cols_any S1.out (k := k + 1) HK.out).mono ?_
 rintro e w1 ⟨rfl, hS⟩
 have S2 := Lib.hid hS
 obtain ⟨hxc, hfc, hzc⟩ := (hS.box (k := 0) rfl).facts
 clear hS S1
 have hwc := HWC.out
 go_wp2_with fail
 go_ret
 exact ⟨by rw [HV.out]; rfl, S2.out.tail⟩
set_option maxHeartbeats 4000000 in
theorem r16Wraps_any (row col : Int) (pend auto : Bool) (n : Int) (hS : Objs w0 w os) (hk : os[k]? = some (.grid p 33 cols L)) (hc : 0 < cols) (hcm : cols ≤ 1000) :
  Calls Tryd.prog 65 #[.pointer (some ⟨p, 0, none⟩), .agg #[.int .i64 row, .int .i64 col, .bool pend], .int .i64 n, .bool auto] w fun e w' => e = .returned (.bool (wrapB cols col pend auto n)) ∧ Objs w0 w' os := by
 have S0 := Lib.hid hS
 have HK := Lib.hid hk
 have HWC := Lib.hid (show IntKind.i64.wrap ((cols : Int) - 1) = (cols : Int) - 1 from IntWalk.i64_in _ (by omega))
 clear hS hk
 cases auto with
 | false =>
  have HV := Lib.hid (show wrapB cols col pend false n = false by simp [wrapB])
  go_enter Tryd.func65, Tryd.ntmps65
  go_upto_region 1 with (fail)
  refine at_objsC S0.out.alloc1 (fun W hW => ?_)
  generalize w.heap.size = bc at hW ⊢
  obtain ⟨hxc, hfc, hzc⟩ := (hW.box (k := 0) rfl).facts
  obtain ⟨Ax, cx, hBx, -, -⟩ := hW.gridRd (k := k + 1) HK.out
  obtain ⟨hxx, hfx, hzx⟩ := hBx.facts
  have S1 := Lib.hid hW
  clear hW S0 hBx
  have hwc := HWC.out
  refine wp_region_below (by kernel_rfl) (by kernel_rfl) ?_
  repeat (go_big_quiet_step (fail))
  refine wpQuiet_nil ?_
  intro w2 hb2
  have S2 := Lib.hid (S1.out.bel hb2)
  clear hb2 S1
  go_wp2_with fail
  go_ret
  exact ⟨by rw [HV.out]; rfl, S2.out.tail⟩
 | true =>
 cases pend with
 | true =>
  have HV := Lib.hid (show wrapB cols col true true n = true by simp [wrapB])
  go_enter Tryd.func65, Tryd.ntmps65
  go_upto_region 1 with (fail)
  refine at_objsC S0.out.alloc1 (fun W hW => ?_)
  generalize w.heap.size = bc at hW ⊢
  obtain ⟨hxc, hfc, hzc⟩ := (hW.box (k := 0) rfl).facts
  obtain ⟨Ax, cx, hBx, -, -⟩ := hW.gridRd (k := k + 1) HK.out
  obtain ⟨hxx, hfx, hzx⟩ := hBx.facts
  have S1 := Lib.hid hW
  clear hW S0 hBx
  have hwc := HWC.out
  refine wp_region_below (by kernel_rfl) (by kernel_rfl) ?_
  repeat (go_big_quiet_step (fail))
  refine wpQuiet_nil ?_
  intro w2 hb2
  have S2 := Lib.hid (S1.out.bel hb2)
  clear hb2 S1
  go_wp2_with fail
  go_ret
  exact ⟨by rw [HV.out]; rfl, S2.out.tail⟩
 | false =>
 by_cases h2 : n = 2
 case neg =>
  have hb2 := beq_no h2
  have HV := Lib.hid (show wrapB cols col false true n = false by simp [wrapB, h2])
  clear h2
  go_enter Tryd.func65, Tryd.ntmps65
  go_upto_region 1 with (fail)
  refine at_objsC S0.out.alloc1 (fun W hW => ?_)
  generalize w.heap.size = bc at hW ⊢
  obtain ⟨hxc, hfc, hzc⟩ := (hW.box (k := 0) rfl).facts
  obtain ⟨Ax, cx, hBx, -, -⟩ := hW.gridRd (k := k + 1) HK.out
  obtain ⟨hxx, hfx, hzx⟩ := hBx.facts
  have S1 := Lib.hid hW
  clear hW S0 hBx
  have hwc := HWC.out
  refine wp_region_below (by kernel_rfl) (by kernel_rfl) ?_
  repeat (go_big_quiet_step (fail))
  refine wpQuiet_nil ?_
  intro w2 hb2
  have S2 := Lib.hid (S1.out.bel hb2)
  clear hb2 S1
  go_wp2_with fail
  go_ret
  exact ⟨by rw [HV.out]; rfl, S2.out.tail⟩
 subst h2
 by_cases h3 : 1 < cols
 case neg =>
  have HV := Lib.hid (show wrapB cols col false true 2 = false by simp [wrapB, h3])
  have d3 : decide ((0 : Int) < (cols : Int) - 1) = false := decide_eq_false (by omega)
  have d4 : decide ((1 : Int) < (cols : Int)) = false := decide_eq_false (by omega)
  have d5 : decide (1 < cols) = false := decide_eq_false (by omega)
  go_enter Tryd.func65, Tryd.ntmps65
  go_upto_region 1 with (fail)
  refine at_objsC S0.out.alloc1 (fun W hW => ?_)
  generalize w.heap.size = bc at hW ⊢
  obtain ⟨hxc, hfc, hzc⟩ := (hW.box (k := 0) rfl).facts
  obtain ⟨Ax, cx, hBx, -, -⟩ := hW.gridRd (k := k + 1) HK.out
  obtain ⟨hxx, hfx, hzx⟩ := hBx.facts
  have S1 := Lib.hid hW
  clear hW S0 hBx
  have hwc := HWC.out
  refine wp_region_below (by kernel_rfl) (by kernel_rfl) ?_
  repeat (go_big_quiet_step (fail))
  refine wpQuiet_nil ?_
  intro w2 hb2
  have S2 := Lib.hid (S1.out.bel hb2)
  clear hb2 S1
  go_wp2_with fail
  go_ret
  exact ⟨by rw [HV.out]; rfl, S2.out.tail⟩
 by_cases h4 : col = (cols : Int) - 1
 case neg =>
  have hb4 := beq_no h4
  have HV := Lib.hid (show wrapB cols col false true 2 = false by simp [wrapB, h4])
  clear h4
  have d3 : decide ((0 : Int) < (cols : Int) - 1) = true := decide_eq_true (by omega)
  have d4 : decide ((1 : Int) < (cols : Int)) = true := decide_eq_true (by omega)
  have d5 : decide (1 < cols) = true := decide_eq_true (by omega)
  go_enter Tryd.func65, Tryd.ntmps65
  go_upto_region 1 with (fail)
  refine at_objsC S0.out.alloc1 (fun W hW => ?_)
  generalize w.heap.size = bc at hW ⊢
  obtain ⟨hxc, hfc, hzc⟩ := (hW.box (k := 0) rfl).facts
  obtain ⟨Ax, cx, hBx, -, -⟩ := hW.gridRd (k := k + 1) HK.out
  obtain ⟨hxx, hfx, hzx⟩ := hBx.facts
  have S1 := Lib.hid hW
  clear hW S0 hBx
  have hwc := HWC.out
  refine wp_region_below (by kernel_rfl) (by kernel_rfl) ?_
  repeat (go_big_quiet_step (fail))
  refine wpQuiet_nil ?_
  intro w2 hb2
  have S2 := Lib.hid (S1.out.bel hb2)
  clear hb2 S1
  go_wp2_with fail
  go_ret
  exact ⟨by rw [HV.out]; rfl, S2.out.tail⟩
 have hb4 := beq_yes h4
 have HV := Lib.hid (show wrapB cols col false true 2 = true by simp [wrapB, h3, h4])
 clear h4
 have d3 : decide ((0 : Int) < (cols : Int) - 1) = true := decide_eq_true (by omega)
 have d4 : decide ((1 : Int) < (cols : Int)) = true := decide_eq_true (by omega)
 have d5 : decide (1 < cols) = true := decide_eq_true (by omega)
 go_enter Tryd.func65, Tryd.ntmps65
 go_upto_region 1 with (fail)
 refine at_objsC S0.out.alloc1 (fun W hW => ?_)
 generalize w.heap.size = bc at hW ⊢
 obtain ⟨hxc, hfc, hzc⟩ := (hW.box (k := 0) rfl).facts
 obtain ⟨Ax, cx, hBx, -, -⟩ := hW.gridRd (k := k + 1) HK.out
 obtain ⟨hxx, hfx, hzx⟩ := hBx.facts
 have S1 := Lib.hid hW
 clear hW S0 hBx
 have hwc := HWC.out
 refine wp_region_below (by kernel_rfl) (by kernel_rfl) ?_
 repeat (go_big_quiet_step (fail))
 refine wpQuiet_nil ?_
 intro w2 hb2
 have S2 := Lib.hid (S1.out.bel hb2)
 clear hb2 S1
 go_wp2_with fail
 go_ret
 exact ⟨by rw [HV.out]; rfl, S2.out.tail⟩
theorem inG_bools {row col : Int} {pd b1 b2 b3 b4 b6 : Bool} {rows cols : Nat} (h1 : decide (0 ≤ row) = b1) (h2 : decide (row < (rows : Int)) = b2) (h3 : decide (0 ≤ col) = b3) (h4 : decide (col < (cols : Int)) = b4) (h6 : (col == (cols : Int) - 1) = b6) : inG row col pd rows cols = (b1 && b2 && b3 && b4 && (!pd || b6)) := by
 subst h1; subst h2; subst h3; subst h4; subst h6
 rw [Bool.eq_iff_iff, ingrid_iff]
 cases pd <;> simp [and_assoc]
set_option maxRecDepth 100000 in
set_option maxHeartbeats 4000000 in
theorem r16In_any {x : Nat} (row col : Int) (pd : Bool) (hS : Objs w0 w os) (hk : os[k]? = some (.grid x 33 cols L)) (hcm : cols ≤ 1000) :
  Calls Tryd.prog 35 #[.pointer (some ⟨x, 0, none⟩), .agg #[.int .i64 row, .int .i64 col, .bool pd]] w fun e w' => e = .returned (.bool (inG row col pd L.length cols)) ∧ Objs w0 w' os := by
 have S0 := Lib.hid hS
 have HK := Lib.hid hk
 have HWC := Lib.hid (show IntKind.i64.wrap ((cols : Int) - 1) = (cols : Int) - 1 from IntWalk.i64_in _ (by omega))
 clear hS hk
 obtain ⟨b1, h1⟩ : ∃ b1, decide (0 ≤ row) = b1 := ⟨_, rfl⟩
 obtain ⟨b2, h2⟩ : ∃ b2, decide (row < (L.length : Int)) = b2 := ⟨_, rfl⟩
 obtain ⟨b3, h3⟩ : ∃ b3, decide (0 ≤ col) = b3 := ⟨_, rfl⟩
 obtain ⟨b4, h4⟩ : ∃ b4, decide (col < (cols : Int)) = b4 := ⟨_, rfl⟩
 obtain ⟨b6, h6⟩ : ∃ b6, (col == (cols : Int) - 1) = b6 := ⟨_, rfl⟩
 have HE := Lib.hid (inG_bools (pd := pd) h1 h2 h3 h4 h6)
 have H1 := Lib.hid h1
 have H2 := Lib.hid h2
 have H3 := Lib.hid h3
 have H4 := Lib.hid h4
 have H6 := Lib.hid h6
 clear h1 h2 h3 h4 h6
 go_enter Tryd.func35, Tryd.ntmps35
 go_upto_region 1 with (fail)
 refine at_objsC S0.out.alloc1 (fun W hW => ?_)
 generalize w.heap.size = bc at hW ⊢
 obtain ⟨hxc, hfc, hzc⟩ := (hW.box (k := 0) rfl).facts
 obtain ⟨Ax, cx, hBx, -, -⟩ := hW.gridRd (k := k + 1) HK.out
 obtain ⟨hxx, hfx, hzx⟩ := hBx.facts
 have S1 := Lib.hid hW
 clear hW S0 hBx
 refine wp_region_stage (w0 := W) (os := []) (by kernel_rfl) (by kernel_rfl) (by kernel_rfl) [] [[], [], [], [], [], [], [], [], [], [], [], [], [], [], [], [], [], [], [], [], [], [], [], [], [], [], [], [], [], [], [], [], [], [], [], [], [], [], [], [], [], [], []] [] (fun opn u => match opn with | 0 => u = pt bc 0 | 1 => u = .int .i64 row | 2 => u = .bool b1 | 3 => u = .bool b1 | 4 => u = ((bif b1 then pt bc 0 else undef) : Value) | 5 => u = ((bif b1 then .int .i64 row else undef) : Value) | 6 => u = ((bif b1 then pt x 0 else undef) : Value) | 7 => u = ((bif b1 then pt x 0 else undef) : Value) | 8 => u = ((bif b1 then pt x 1 else undef) : Value) | 9 => u = ((bif b1 then .slice Ax L.length cx else undef) : Value) | 10 => u = ((bif b1 then .int .i64 ↑L.length else undef) : Value) | 11 => u = ((bif b1 then .bool b2 else undef) : Value) | 12 => u = .bool (b1 && b2) | 13 => u = .bool (b1 && b2) | 14 => u = ((bif b1 then bif b2 then pt bc 1 else undef else undef) : Value) | 15 => u = ((bif b1 then bif b2 then .int .i64 col else undef else undef) : Value) | 16 => u = ((bif b1 then bif b2 then .bool b3 else undef else undef) : Value) | 17 => u = .bool (b1 && b2 && b3) | 18 => u = .bool (b1 && b2 && b3) | 19 => u = ((bif b1 then bif b2 then bif b3 then pt bc 1 else undef else undef else undef) : Value) | 20 => u = ((bif b1 then bif b2 then bif b3 then .int .i64 col else undef else undef else undef) : Value) | 21 => u = ((bif b1 then bif b2 then bif b3 then pt x 0 else undef else undef else undef) : Value) | 22 => u = ((bif b1 then bif b2 then bif b3 then pt x 0 else undef else undef else undef) : Value) | 23 => u = ((bif b1 then bif b2 then bif b3 then pt x 0 else undef else undef else undef) : Value) | 24 => u = ((bif b1 then bif b2 then bif b3 then .int .i64 ↑cols else undef else undef else undef) : Value) | 25 => u = ((bif b1 then bif b2 then bif b3 then .bool b4 else undef else undef else undef) : Value) | 26 => u = .bool (b1 && b2 && b3 && b4) | 27 => u = .bool (b1 && b2 && b3 && b4) | 28 => u = ((bif b1 then bif b2 then bif b3 then bif b4 then pt bc 2 else undef else undef else undef else undef) : Value) | 29 => u = ((bif b1 then bif b2 then bif b3 then bif b4 then .bool pd else undef else undef else undef else undef) : Value) | 30 => u = ((bif b1 then bif b2 then bif b3 then bif b4 then .bool (!pd) else undef else undef else undef else undef) : Value) | 31 => u = ((bif b1 then bif b2 then bif b3 then bif b4 then .bool (!pd) else undef else undef else undef else undef) : Value) | 32 => u = ((bif b1 then bif b2 then bif b3 then bif b4 then bif pd then pt bc 1 else undef else undef else undef else undef else undef) : Value) | 33 => u = ((bif b1 then bif b2 then bif b3 then bif b4 then bif pd then .int .i64 col else undef else undef else undef else undef else undef) : Value) | 34 => u = ((bif b1 then bif b2 then bif b3 then bif b4 then bif pd then pt x 0 else undef else undef else undef else undef else undef) : Value) | 35 => u = ((bif b1 then bif b2 then bif b3 then bif b4 then bif pd then pt x 0 else undef else undef else undef else undef else undef) : Value) | 36 => u = ((bif b1 then bif b2 then bif b3 then bif b4 then bif pd then pt x 0 else undef else undef else undef else undef else undef) : Value) | 37 => u = ((bif b1 then bif b2 then bif b3 then bif b4 then bif pd then .int .i64 ↑cols else undef else undef else undef else undef else undef) : Value) | 38 => u = ((bif b1 then bif b2 then bif b3 then bif b4 then bif pd then .int .i64 (↑cols - 1) else undef else undef else undef else undef else undef) : Value) | 39 => u = ((bif b1 then bif b2 then bif b3 then bif b4 then bif pd then .bool b6 else undef else undef else undef else undef else undef) : Value) | 40 => u = ((bif b1 then bif b2 then bif b3 then bif b4 then .bool (!pd || b6) else undef else undef else undef else undef) : Value) | 41 => u = (.bool (b1 && b2 && b3 && b4 && (!pd || b6)) : Value) | 42 => u = (.bool (b1 && b2 && b3 && b4 && (!pd || b6)) : Value) | _ => True) (fun vs => []) (by kernel_rfl) (fun vs => by rfl) (objs_start W) ?_ ?_
 ·apply sc
  ·intro a w' vs σ hS hl hs hk
   have f3 : a.tmps[3]?.getD undef = .pointer (some ⟨bc, 0, none⟩) := sof hk
   exact rp (pt bc 0) (by simp [execOp, Act.eval, f3, go_sem]) hl hs hS
  apply sc
  ·intro a w' vs σ hS hl hs hk
   have f5 : a.tmps[5]?.getD undef = .pointer (some ⟨bc, 0, none⟩) := sf hk 0
   have hx := (hS.base.cell (p := ⟨bc, 0, none⟩) hzc).trans (hxc 0)
   exact rp (.int .i64 row) (by simp [execOp, Act.eval, f5, go_sem, hx]) hl hs hS
  apply sc
  ·intro a w' vs σ hS hl hs hk
   have f6 : a.tmps[6]?.getD undef = .int .i64 row := sf hk 1
   exact rp (.bool b1) (by simp [execOp, Act.eval, f6, go_sem, H1.out]) hl hs hS
  apply sc
  ·intro a w' vs σ hS hl hs hk
   have f7 : a.tmps[7]?.getD undef = .bool b1 := sf hk 2
   exact rp (.bool b1) (by simp [execOp, Act.eval, f7, go_sem]) hl hs hS
  apply sc
  ·intro a w' vs σ hS hl hs hk
   cases b1 with
   | true =>
    have f3 : a.tmps[3]?.getD undef = pt bc 0 := sof hk
    exact rq (pt bc 0) (wanted_yes rfl rfl rfl (sv hk 3)) (by simp [execOp, Act.eval, f3, go_sem]) hl hs hS
   | false =>
    exact rs_skip (wanted_no rfl rfl rfl (sv hk 3) (by simp)) (sp_same (by kernel_rfl) hl hs hS (show undef = _ from rfl))
  apply sc
  ·intro a w' vs σ hS hl hs hk
   cases b1 with
   | true =>
    have f9 : a.tmps[9]?.getD undef = pt bc 0 := sf hk 4
    have hx := (hS.base.cell (p := ⟨bc, 0, none⟩) hzc).trans (hxc 0)
    exact rq (.int .i64 row) (wanted_yes rfl rfl rfl (sv hk 3)) (by simp [execOp, Act.eval, f9, go_sem, hx]) hl hs hS
   | false =>
    exact rs_skip (wanted_no rfl rfl rfl (sv hk 3) (by simp)) (sp_same (by kernel_rfl) hl hs hS (show undef = _ from rfl))
  apply sc
  ·intro a w' vs σ hS hl hs hk
   cases b1 with
   | true =>
    have f0 : a.tmps[0]?.getD undef = pt x 0 := sof hk
    exact rq (pt x 0) (wanted_yes rfl rfl rfl (sv hk 3)) (by simp [execOp, Act.eval, f0, go_sem]) hl hs hS
   | false =>
    exact rs_skip (wanted_no rfl rfl rfl (sv hk 3) (by simp)) (sp_same (by kernel_rfl) hl hs hS (show undef = _ from rfl))
  apply sc
  ·intro a w' vs σ hS hl hs hk
   cases b1 with
   | true =>
    have f11 : a.tmps[11]?.getD undef = pt x 0 := sf hk 6
    exact rq (pt x 0) (wanted_yes rfl rfl rfl (sv hk 3)) (by simp [execOp, Act.eval, f11, go_sem]) hl hs hS
   | false =>
    exact rs_skip (wanted_no rfl rfl rfl (sv hk 3) (by simp)) (sp_same (by kernel_rfl) hl hs hS (show undef = _ from rfl))
  apply sc
  ·intro a w' vs σ hS hl hs hk
   cases b1 with
   | true =>
    have f12 : a.tmps[12]?.getD undef = pt x 0 := sf hk 7
    exact rq (pt x 1) (wanted_yes rfl rfl rfl (sv hk 3)) (by simp [execOp, Act.eval, f12, go_sem]) hl hs hS
   | false =>
    exact rs_skip (wanted_no rfl rfl rfl (sv hk 3) (by simp)) (sp_same (by kernel_rfl) hl hs hS (show undef = _ from rfl))
  apply sc
  ·intro a w' vs σ hS hl hs hk
   cases b1 with
   | true =>
    have f13 : a.tmps[13]?.getD undef = pt x 1 := sf hk 8
    have hx := (hS.base.cell (p := ⟨x, 1, none⟩) hzx).trans (hxx 1)
    exact rq (.slice Ax L.length cx) (wanted_yes rfl rfl rfl (sv hk 3)) (by simp [execOp, Act.eval, f13, go_sem, hx]) hl hs hS
   | false =>
    exact rs_skip (wanted_no rfl rfl rfl (sv hk 3) (by simp)) (sp_same (by kernel_rfl) hl hs hS (show undef = _ from rfl))
  apply sc
  ·intro a w' vs σ hS hl hs hk
   cases b1 with
   | true =>
    have f14 : a.tmps[14]?.getD undef = .slice Ax L.length cx := sf hk 9
    exact rq (.int .i64 ↑L.length) (wanted_yes rfl rfl rfl (sv hk 3)) (by simp [execOp, Act.eval, f14, go_sem]) hl hs hS
   | false =>
    exact rs_skip (wanted_no rfl rfl rfl (sv hk 3) (by simp)) (sp_same (by kernel_rfl) hl hs hS (show undef = _ from rfl))
  apply sc
  ·intro a w' vs σ hS hl hs hk
   cases b1 with
   | true =>
    have f10 : a.tmps[10]?.getD undef = .int .i64 row := sf hk 5
    have f15 : a.tmps[15]?.getD undef = .int .i64 ↑L.length := sf hk 10
    exact rq (.bool b2) (wanted_yes rfl rfl rfl (sv hk 3)) (by simp [execOp, Act.eval, f10, f15, go_sem, H2.out]) hl hs hS
   | false =>
    exact rs_skip (wanted_no rfl rfl rfl (sv hk 3) (by simp)) (sp_same (by kernel_rfl) hl hs hS (show undef = _ from rfl))
  apply sc
  ·intro a w' vs σ hS hl hs hk
   cases b1 with
   | true =>
    have e8 : a.tmps.getD 8 undef = .bool true := sv hk 3
    have f8 := gd e8
    have e16 : a.tmps.getD 16 undef = .bool b2 := sv hk 11
    have f16 := gd e16
    exact rp (.bool (true && b2)) (by simp [execOp, Act.eval, e8, f8, e16, f16, go_sem]) hl hs hS
   | false =>
    have e8 : a.tmps.getD 8 undef = .bool false := sv hk 3
    have f8 := gd e8
    have e16 : a.tmps.getD 16 undef = (undef : Value) := sv hk 11
    have f16 := gd e16
    exact rp (.bool (false && b2)) (by simp [execOp, Act.eval, e8, f8, e16, f16, go_sem]) hl hs hS
  apply sc
  ·intro a w' vs σ hS hl hs hk
   have f17 : a.tmps[17]?.getD undef = .bool (b1 && b2) := sf hk 12
   exact rp (.bool (b1 && b2)) (by simp [execOp, Act.eval, f17, go_sem]) hl hs hS
  apply sc
  ·intro a w' vs σ hS hl hs hk
   cases b1 with
   | true =>
    cases b2 with
    | true =>
     have f3 : a.tmps[3]?.getD undef = pt bc 0 := sof hk
     exact rq (pt bc 1) (wanted_yes rfl rfl rfl (sv hk 13)) (by simp [execOp, Act.eval, f3, go_sem]) hl hs hS
    | false =>
     exact rs_skip (wanted_no rfl rfl rfl (sv hk 13) (by simp)) (sp_same (by kernel_rfl) hl hs hS (show undef = _ from rfl))
   | false =>
    exact rs_skip (wanted_no rfl rfl rfl (sv hk 13) (by simp)) (sp_same (by kernel_rfl) hl hs hS (show undef = _ from rfl))
  apply sc
  ·intro a w' vs σ hS hl hs hk
   cases b1 with
   | true =>
    cases b2 with
    | true =>
     have f19 : a.tmps[19]?.getD undef = pt bc 1 := sf hk 14
     have hx := (hS.base.cell (p := ⟨bc, 1, none⟩) hzc).trans (hxc 1)
     exact rq (.int .i64 col) (wanted_yes rfl rfl rfl (sv hk 13)) (by simp [execOp, Act.eval, f19, go_sem, hx]) hl hs hS
    | false =>
     exact rs_skip (wanted_no rfl rfl rfl (sv hk 13) (by simp)) (sp_same (by kernel_rfl) hl hs hS (show undef = _ from rfl))
   | false =>
    exact rs_skip (wanted_no rfl rfl rfl (sv hk 13) (by simp)) (sp_same (by kernel_rfl) hl hs hS (show undef = _ from rfl))
  apply sc
  ·intro a w' vs σ hS hl hs hk
   cases b1 with
   | true =>
    cases b2 with
    | true =>
     have f20 : a.tmps[20]?.getD undef = .int .i64 col := sf hk 15
     exact rq (.bool b3) (wanted_yes rfl rfl rfl (sv hk 13)) (by simp [execOp, Act.eval, f20, go_sem, H3.out]) hl hs hS
    | false =>
     exact rs_skip (wanted_no rfl rfl rfl (sv hk 13) (by simp)) (sp_same (by kernel_rfl) hl hs hS (show undef = _ from rfl))
   | false =>
    exact rs_skip (wanted_no rfl rfl rfl (sv hk 13) (by simp)) (sp_same (by kernel_rfl) hl hs hS (show undef = _ from rfl))
  apply sc
  ·intro a w' vs σ hS hl hs hk
   cases b1 with
   | true =>
    cases b2 with
    | true =>
     have e18 : a.tmps.getD 18 undef = .bool (true && true) := sv hk 13
     have f18 := gd e18
     have e21 : a.tmps.getD 21 undef = .bool b3 := sv hk 16
     have f21 := gd e21
     exact rp (.bool (true && true && b3)) (by simp [execOp, Act.eval, e18, f18, e21, f21, go_sem]) hl hs hS
    | false =>
     have e18 : a.tmps.getD 18 undef = .bool (true && false) := sv hk 13
     have f18 := gd e18
     have e21 : a.tmps.getD 21 undef = (undef : Value) := sv hk 16
     have f21 := gd e21
     exact rp (.bool (true && false && b3)) (by simp [execOp, Act.eval, e18, f18, e21, f21, go_sem]) hl hs hS
   | false =>
    cases b2 with
    | true =>
     have e18 : a.tmps.getD 18 undef = .bool (false && true) := sv hk 13
     have f18 := gd e18
     have e21 : a.tmps.getD 21 undef = (undef : Value) := sv hk 16
     have f21 := gd e21
     exact rp (.bool (false && true && b3)) (by simp [execOp, Act.eval, e18, f18, e21, f21, go_sem]) hl hs hS
    | false =>
     have e18 : a.tmps.getD 18 undef = .bool (false && false) := sv hk 13
     have f18 := gd e18
     have e21 : a.tmps.getD 21 undef = (undef : Value) := sv hk 16
     have f21 := gd e21
     exact rp (.bool (false && false && b3)) (by simp [execOp, Act.eval, e18, f18, e21, f21, go_sem]) hl hs hS
  apply sc
  ·intro a w' vs σ hS hl hs hk
   have f22 : a.tmps[22]?.getD undef = .bool (b1 && b2 && b3) := sf hk 17
   exact rp (.bool (b1 && b2 && b3)) (by simp [execOp, Act.eval, f22, go_sem]) hl hs hS
  apply sc
  ·intro a w' vs σ hS hl hs hk
   cases b1 with
   | true =>
    cases b2 with
    | true =>
     cases b3 with
     | true =>
      have f3 : a.tmps[3]?.getD undef = pt bc 0 := sof hk
      exact rq (pt bc 1) (wanted_yes rfl rfl rfl (sv hk 18)) (by simp [execOp, Act.eval, f3, go_sem]) hl hs hS
     | false =>
      exact rs_skip (wanted_no rfl rfl rfl (sv hk 18) (by simp)) (sp_same (by kernel_rfl) hl hs hS (show undef = _ from rfl))
    | false =>
     exact rs_skip (wanted_no rfl rfl rfl (sv hk 18) (by simp)) (sp_same (by kernel_rfl) hl hs hS (show undef = _ from rfl))
   | false =>
    exact rs_skip (wanted_no rfl rfl rfl (sv hk 18) (by simp)) (sp_same (by kernel_rfl) hl hs hS (show undef = _ from rfl))
  apply sc
  ·intro a w' vs σ hS hl hs hk
   cases b1 with
   | true =>
    cases b2 with
    | true =>
     cases b3 with
     | true =>
      have f24 : a.tmps[24]?.getD undef = pt bc 1 := sf hk 19
      have hx := (hS.base.cell (p := ⟨bc, 1, none⟩) hzc).trans (hxc 1)
      exact rq (.int .i64 col) (wanted_yes rfl rfl rfl (sv hk 18)) (by simp [execOp, Act.eval, f24, go_sem, hx]) hl hs hS
     | false =>
      exact rs_skip (wanted_no rfl rfl rfl (sv hk 18) (by simp)) (sp_same (by kernel_rfl) hl hs hS (show undef = _ from rfl))
    | false =>
     exact rs_skip (wanted_no rfl rfl rfl (sv hk 18) (by simp)) (sp_same (by kernel_rfl) hl hs hS (show undef = _ from rfl))
   | false =>
    exact rs_skip (wanted_no rfl rfl rfl (sv hk 18) (by simp)) (sp_same (by kernel_rfl) hl hs hS (show undef = _ from rfl))
  apply sc
  ·intro a w' vs σ hS hl hs hk
   cases b1 with
   | true =>
    cases b2 with
    | true =>
     cases b3 with
     | true =>
      have f0 : a.tmps[0]?.getD undef = pt x 0 := sof hk
      exact rq (pt x 0) (wanted_yes rfl rfl rfl (sv hk 18)) (by simp [execOp, Act.eval, f0, go_sem]) hl hs hS
     | false =>
      exact rs_skip (wanted_no rfl rfl rfl (sv hk 18) (by simp)) (sp_same (by kernel_rfl) hl hs hS (show undef = _ from rfl))
    | false =>
     exact rs_skip (wanted_no rfl rfl rfl (sv hk 18) (by simp)) (sp_same (by kernel_rfl) hl hs hS (show undef = _ from rfl))
   | false =>
    exact rs_skip (wanted_no rfl rfl rfl (sv hk 18) (by simp)) (sp_same (by kernel_rfl) hl hs hS (show undef = _ from rfl))
  apply sc
  ·intro a w' vs σ hS hl hs hk
   cases b1 with
   | true =>
    cases b2 with
    | true =>
     cases b3 with
     | true =>
      have f26 : a.tmps[26]?.getD undef = pt x 0 := sf hk 21
      exact rq (pt x 0) (wanted_yes rfl rfl rfl (sv hk 18)) (by simp [execOp, Act.eval, f26, go_sem]) hl hs hS
     | false =>
      exact rs_skip (wanted_no rfl rfl rfl (sv hk 18) (by simp)) (sp_same (by kernel_rfl) hl hs hS (show undef = _ from rfl))
    | false =>
     exact rs_skip (wanted_no rfl rfl rfl (sv hk 18) (by simp)) (sp_same (by kernel_rfl) hl hs hS (show undef = _ from rfl))
   | false =>
    exact rs_skip (wanted_no rfl rfl rfl (sv hk 18) (by simp)) (sp_same (by kernel_rfl) hl hs hS (show undef = _ from rfl))
  apply sc
  ·intro a w' vs σ hS hl hs hk
   cases b1 with
   | true =>
    cases b2 with
    | true =>
     cases b3 with
     | true =>
      have f27 : a.tmps[27]?.getD undef = pt x 0 := sf hk 22
      exact rq (pt x 0) (wanted_yes rfl rfl rfl (sv hk 18)) (by simp [execOp, Act.eval, f27, go_sem]) hl hs hS
     | false =>
      exact rs_skip (wanted_no rfl rfl rfl (sv hk 18) (by simp)) (sp_same (by kernel_rfl) hl hs hS (show undef = _ from rfl))
    | false =>
     exact rs_skip (wanted_no rfl rfl rfl (sv hk 18) (by simp)) (sp_same (by kernel_rfl) hl hs hS (show undef = _ from rfl))
   | false =>
    exact rs_skip (wanted_no rfl rfl rfl (sv hk 18) (by simp)) (sp_same (by kernel_rfl) hl hs hS (show undef = _ from rfl))
  apply sc
  ·intro a w' vs σ hS hl hs hk
   cases b1 with
   | true =>
    cases b2 with
    | true =>
     cases b3 with
     | true =>
      have f28 : a.tmps[28]?.getD undef = pt x 0 := sf hk 23
      have hx := (hS.base.cell (p := ⟨x, 0, none⟩) hzx).trans (hxx 0)
      exact rq (.int .i64 ↑cols) (wanted_yes rfl rfl rfl (sv hk 18)) (by simp [execOp, Act.eval, f28, go_sem, hx]) hl hs hS
     | false =>
      exact rs_skip (wanted_no rfl rfl rfl (sv hk 18) (by simp)) (sp_same (by kernel_rfl) hl hs hS (show undef = _ from rfl))
    | false =>
     exact rs_skip (wanted_no rfl rfl rfl (sv hk 18) (by simp)) (sp_same (by kernel_rfl) hl hs hS (show undef = _ from rfl))
   | false =>
    exact rs_skip (wanted_no rfl rfl rfl (sv hk 18) (by simp)) (sp_same (by kernel_rfl) hl hs hS (show undef = _ from rfl))
  apply sc
  ·intro a w' vs σ hS hl hs hk
   cases b1 with
   | true =>
    cases b2 with
    | true =>
     cases b3 with
     | true =>
      have f25 : a.tmps[25]?.getD undef = .int .i64 col := sf hk 20
      have f29 : a.tmps[29]?.getD undef = .int .i64 ↑cols := sf hk 24
      exact rq (.bool b4) (wanted_yes rfl rfl rfl (sv hk 18)) (by simp [execOp, Act.eval, f25, f29, go_sem, H4.out]) hl hs hS
     | false =>
      exact rs_skip (wanted_no rfl rfl rfl (sv hk 18) (by simp)) (sp_same (by kernel_rfl) hl hs hS (show undef = _ from rfl))
    | false =>
     exact rs_skip (wanted_no rfl rfl rfl (sv hk 18) (by simp)) (sp_same (by kernel_rfl) hl hs hS (show undef = _ from rfl))
   | false =>
    exact rs_skip (wanted_no rfl rfl rfl (sv hk 18) (by simp)) (sp_same (by kernel_rfl) hl hs hS (show undef = _ from rfl))
  apply sc
  ·intro a w' vs σ hS hl hs hk
   cases b1 with
   | true =>
    cases b2 with
    | true =>
     cases b3 with
     | true =>
      have e23 : a.tmps.getD 23 undef = .bool (true && true && true) := sv hk 18
      have f23 := gd e23
      have e30 : a.tmps.getD 30 undef = .bool b4 := sv hk 25
      have f30 := gd e30
      exact rp (.bool (true && true && true && b4)) (by simp [execOp, Act.eval, e23, f23, e30, f30, go_sem]) hl hs hS
     | false =>
      have e23 : a.tmps.getD 23 undef = .bool (true && true && false) := sv hk 18
      have f23 := gd e23
      have e30 : a.tmps.getD 30 undef = (undef : Value) := sv hk 25
      have f30 := gd e30
      exact rp (.bool (true && true && false && b4)) (by simp [execOp, Act.eval, e23, f23, e30, f30, go_sem]) hl hs hS
    | false =>
     cases b3 with
     | true =>
      have e23 : a.tmps.getD 23 undef = .bool (true && false && true) := sv hk 18
      have f23 := gd e23
      have e30 : a.tmps.getD 30 undef = (undef : Value) := sv hk 25
      have f30 := gd e30
      exact rp (.bool (true && false && true && b4)) (by simp [execOp, Act.eval, e23, f23, e30, f30, go_sem]) hl hs hS
     | false =>
      have e23 : a.tmps.getD 23 undef = .bool (true && false && false) := sv hk 18
      have f23 := gd e23
      have e30 : a.tmps.getD 30 undef = (undef : Value) := sv hk 25
      have f30 := gd e30
      exact rp (.bool (true && false && false && b4)) (by simp [execOp, Act.eval, e23, f23, e30, f30, go_sem]) hl hs hS
   | false =>
    cases b2 with
    | true =>
     cases b3 with
     | true =>
      have e23 : a.tmps.getD 23 undef = .bool (false && true && true) := sv hk 18
      have f23 := gd e23
      have e30 : a.tmps.getD 30 undef = (undef : Value) := sv hk 25
      have f30 := gd e30
      exact rp (.bool (false && true && true && b4)) (by simp [execOp, Act.eval, e23, f23, e30, f30, go_sem]) hl hs hS
     | false =>
      have e23 : a.tmps.getD 23 undef = .bool (false && true && false) := sv hk 18
      have f23 := gd e23
      have e30 : a.tmps.getD 30 undef = (undef : Value) := sv hk 25
      have f30 := gd e30
      exact rp (.bool (false && true && false && b4)) (by simp [execOp, Act.eval, e23, f23, e30, f30, go_sem]) hl hs hS
    | false =>
     cases b3 with
     | true =>
      have e23 : a.tmps.getD 23 undef = .bool (false && false && true) := sv hk 18
      have f23 := gd e23
      have e30 : a.tmps.getD 30 undef = (undef : Value) := sv hk 25
      have f30 := gd e30
      exact rp (.bool (false && false && true && b4)) (by simp [execOp, Act.eval, e23, f23, e30, f30, go_sem]) hl hs hS
     | false =>
      have e23 : a.tmps.getD 23 undef = .bool (false && false && false) := sv hk 18
      have f23 := gd e23
      have e30 : a.tmps.getD 30 undef = (undef : Value) := sv hk 25
      have f30 := gd e30
      exact rp (.bool (false && false && false && b4)) (by simp [execOp, Act.eval, e23, f23, e30, f30, go_sem]) hl hs hS
  apply sc
  ·intro a w' vs σ hS hl hs hk
   have f31 : a.tmps[31]?.getD undef = .bool (b1 && b2 && b3 && b4) := sf hk 26
   exact rp (.bool (b1 && b2 && b3 && b4)) (by simp [execOp, Act.eval, f31, go_sem]) hl hs hS
  apply sc
  ·intro a w' vs σ hS hl hs hk
   cases b1 with
   | true =>
    cases b2 with
    | true =>
     cases b3 with
     | true =>
      cases b4 with
      | true =>
       have f3 : a.tmps[3]?.getD undef = pt bc 0 := sof hk
       exact rq (pt bc 2) (wanted_yes rfl rfl rfl (sv hk 27)) (by simp [execOp, Act.eval, f3, go_sem]) hl hs hS
      | false =>
       exact rs_skip (wanted_no rfl rfl rfl (sv hk 27) (by simp)) (sp_same (by kernel_rfl) hl hs hS (show undef = _ from rfl))
     | false =>
      exact rs_skip (wanted_no rfl rfl rfl (sv hk 27) (by simp)) (sp_same (by kernel_rfl) hl hs hS (show undef = _ from rfl))
    | false =>
     exact rs_skip (wanted_no rfl rfl rfl (sv hk 27) (by simp)) (sp_same (by kernel_rfl) hl hs hS (show undef = _ from rfl))
   | false =>
    exact rs_skip (wanted_no rfl rfl rfl (sv hk 27) (by simp)) (sp_same (by kernel_rfl) hl hs hS (show undef = _ from rfl))
  apply sc
  ·intro a w' vs σ hS hl hs hk
   cases b1 with
   | true =>
    cases b2 with
    | true =>
     cases b3 with
     | true =>
      cases b4 with
      | true =>
       have f33 : a.tmps[33]?.getD undef = pt bc 2 := sf hk 28
       have hx := (hS.base.cell (p := ⟨bc, 2, none⟩) hzc).trans (hxc 2)
       exact rq (.bool pd) (wanted_yes rfl rfl rfl (sv hk 27)) (by simp [execOp, Act.eval, f33, go_sem, hx]) hl hs hS
      | false =>
       exact rs_skip (wanted_no rfl rfl rfl (sv hk 27) (by simp)) (sp_same (by kernel_rfl) hl hs hS (show undef = _ from rfl))
     | false =>
      exact rs_skip (wanted_no rfl rfl rfl (sv hk 27) (by simp)) (sp_same (by kernel_rfl) hl hs hS (show undef = _ from rfl))
    | false =>
     exact rs_skip (wanted_no rfl rfl rfl (sv hk 27) (by simp)) (sp_same (by kernel_rfl) hl hs hS (show undef = _ from rfl))
   | false =>
    exact rs_skip (wanted_no rfl rfl rfl (sv hk 27) (by simp)) (sp_same (by kernel_rfl) hl hs hS (show undef = _ from rfl))
  apply sc
  ·intro a w' vs σ hS hl hs hk
   cases b1 with
   | true =>
    cases b2 with
    | true =>
     cases b3 with
     | true =>
      cases b4 with
      | true =>
       have f34 : a.tmps[34]?.getD undef = .bool pd := sf hk 29
       exact rq (.bool (!pd)) (wanted_yes rfl rfl rfl (sv hk 27)) (by simp [execOp, Act.eval, f34, go_sem]) hl hs hS
      | false =>
       exact rs_skip (wanted_no rfl rfl rfl (sv hk 27) (by simp)) (sp_same (by kernel_rfl) hl hs hS (show undef = _ from rfl))
     | false =>
      exact rs_skip (wanted_no rfl rfl rfl (sv hk 27) (by simp)) (sp_same (by kernel_rfl) hl hs hS (show undef = _ from rfl))
    | false =>
     exact rs_skip (wanted_no rfl rfl rfl (sv hk 27) (by simp)) (sp_same (by kernel_rfl) hl hs hS (show undef = _ from rfl))
   | false =>
    exact rs_skip (wanted_no rfl rfl rfl (sv hk 27) (by simp)) (sp_same (by kernel_rfl) hl hs hS (show undef = _ from rfl))
  apply sc
  ·intro a w' vs σ hS hl hs hk
   cases b1 with
   | true =>
    cases b2 with
    | true =>
     cases b3 with
     | true =>
      cases b4 with
      | true =>
       have f35 : a.tmps[35]?.getD undef = .bool (!pd) := sf hk 30
       exact rq (.bool (!pd)) (wanted_yes rfl rfl rfl (sv hk 27)) (by simp [execOp, Act.eval, f35, go_sem]) hl hs hS
      | false =>
       exact rs_skip (wanted_no rfl rfl rfl (sv hk 27) (by simp)) (sp_same (by kernel_rfl) hl hs hS (show undef = _ from rfl))
     | false =>
      exact rs_skip (wanted_no rfl rfl rfl (sv hk 27) (by simp)) (sp_same (by kernel_rfl) hl hs hS (show undef = _ from rfl))
    | false =>
     exact rs_skip (wanted_no rfl rfl rfl (sv hk 27) (by simp)) (sp_same (by kernel_rfl) hl hs hS (show undef = _ from rfl))
   | false =>
    exact rs_skip (wanted_no rfl rfl rfl (sv hk 27) (by simp)) (sp_same (by kernel_rfl) hl hs hS (show undef = _ from rfl))
  apply sc
  ·intro a w' vs σ hS hl hs hk
   cases b1 with
   | true =>
    cases b2 with
    | true =>
     cases b3 with
     | true =>
      cases b4 with
      | true =>
       cases pd with
       | true =>
        have f3 : a.tmps[3]?.getD undef = pt bc 0 := sof hk
        exact rq (pt bc 1) (wanted_yes rfl rfl rfl (sv hk 31)) (by simp [execOp, Act.eval, f3, go_sem]) hl hs hS
       | false =>
        exact rs_skip (wanted_no rfl rfl rfl (sv hk 31) (by simp)) (sp_same (by kernel_rfl) hl hs hS (show undef = _ from rfl))
      | false =>
       exact rs_skip (wanted_undef rfl rfl rfl (sv hk 31)) (sp_same (by kernel_rfl) hl hs hS (show undef = _ from rfl))
     | false =>
      exact rs_skip (wanted_undef rfl rfl rfl (sv hk 31)) (sp_same (by kernel_rfl) hl hs hS (show undef = _ from rfl))
    | false =>
     exact rs_skip (wanted_undef rfl rfl rfl (sv hk 31)) (sp_same (by kernel_rfl) hl hs hS (show undef = _ from rfl))
   | false =>
    exact rs_skip (wanted_undef rfl rfl rfl (sv hk 31)) (sp_same (by kernel_rfl) hl hs hS (show undef = _ from rfl))
  apply sc
  ·intro a w' vs σ hS hl hs hk
   cases b1 with
   | true =>
    cases b2 with
    | true =>
     cases b3 with
     | true =>
      cases b4 with
      | true =>
       cases pd with
       | true =>
        have f37 : a.tmps[37]?.getD undef = pt bc 1 := sf hk 32
        have hx := (hS.base.cell (p := ⟨bc, 1, none⟩) hzc).trans (hxc 1)
        exact rq (.int .i64 col) (wanted_yes rfl rfl rfl (sv hk 31)) (by simp [execOp, Act.eval, f37, go_sem, hx]) hl hs hS
       | false =>
        exact rs_skip (wanted_no rfl rfl rfl (sv hk 31) (by simp)) (sp_same (by kernel_rfl) hl hs hS (show undef = _ from rfl))
      | false =>
       exact rs_skip (wanted_undef rfl rfl rfl (sv hk 31)) (sp_same (by kernel_rfl) hl hs hS (show undef = _ from rfl))
     | false =>
      exact rs_skip (wanted_undef rfl rfl rfl (sv hk 31)) (sp_same (by kernel_rfl) hl hs hS (show undef = _ from rfl))
    | false =>
     exact rs_skip (wanted_undef rfl rfl rfl (sv hk 31)) (sp_same (by kernel_rfl) hl hs hS (show undef = _ from rfl))
   | false =>
    exact rs_skip (wanted_undef rfl rfl rfl (sv hk 31)) (sp_same (by kernel_rfl) hl hs hS (show undef = _ from rfl))
  apply sc
  ·intro a w' vs σ hS hl hs hk
   cases b1 with
   | true =>
    cases b2 with
    | true =>
     cases b3 with
     | true =>
      cases b4 with
      | true =>
       cases pd with
       | true =>
        have f0 : a.tmps[0]?.getD undef = pt x 0 := sof hk
        exact rq (pt x 0) (wanted_yes rfl rfl rfl (sv hk 31)) (by simp [execOp, Act.eval, f0, go_sem]) hl hs hS
       | false =>
        exact rs_skip (wanted_no rfl rfl rfl (sv hk 31) (by simp)) (sp_same (by kernel_rfl) hl hs hS (show undef = _ from rfl))
      | false =>
       exact rs_skip (wanted_undef rfl rfl rfl (sv hk 31)) (sp_same (by kernel_rfl) hl hs hS (show undef = _ from rfl))
     | false =>
      exact rs_skip (wanted_undef rfl rfl rfl (sv hk 31)) (sp_same (by kernel_rfl) hl hs hS (show undef = _ from rfl))
    | false =>
     exact rs_skip (wanted_undef rfl rfl rfl (sv hk 31)) (sp_same (by kernel_rfl) hl hs hS (show undef = _ from rfl))
   | false =>
    exact rs_skip (wanted_undef rfl rfl rfl (sv hk 31)) (sp_same (by kernel_rfl) hl hs hS (show undef = _ from rfl))
  apply sc
  ·intro a w' vs σ hS hl hs hk
   cases b1 with
   | true =>
    cases b2 with
    | true =>
     cases b3 with
     | true =>
      cases b4 with
      | true =>
       cases pd with
       | true =>
        have f39 : a.tmps[39]?.getD undef = pt x 0 := sf hk 34
        exact rq (pt x 0) (wanted_yes rfl rfl rfl (sv hk 31)) (by simp [execOp, Act.eval, f39, go_sem]) hl hs hS
       | false =>
        exact rs_skip (wanted_no rfl rfl rfl (sv hk 31) (by simp)) (sp_same (by kernel_rfl) hl hs hS (show undef = _ from rfl))
      | false =>
       exact rs_skip (wanted_undef rfl rfl rfl (sv hk 31)) (sp_same (by kernel_rfl) hl hs hS (show undef = _ from rfl))
     | false =>
      exact rs_skip (wanted_undef rfl rfl rfl (sv hk 31)) (sp_same (by kernel_rfl) hl hs hS (show undef = _ from rfl))
    | false =>
     exact rs_skip (wanted_undef rfl rfl rfl (sv hk 31)) (sp_same (by kernel_rfl) hl hs hS (show undef = _ from rfl))
   | false =>
    exact rs_skip (wanted_undef rfl rfl rfl (sv hk 31)) (sp_same (by kernel_rfl) hl hs hS (show undef = _ from rfl))
  apply sc
  ·intro a w' vs σ hS hl hs hk
   cases b1 with
   | true =>
    cases b2 with
    | true =>
     cases b3 with
     | true =>
      cases b4 with
      | true =>
       cases pd with
       | true =>
        have f40 : a.tmps[40]?.getD undef = pt x 0 := sf hk 35
        exact rq (pt x 0) (wanted_yes rfl rfl rfl (sv hk 31)) (by simp [execOp, Act.eval, f40, go_sem]) hl hs hS
       | false =>
        exact rs_skip (wanted_no rfl rfl rfl (sv hk 31) (by simp)) (sp_same (by kernel_rfl) hl hs hS (show undef = _ from rfl))
      | false =>
       exact rs_skip (wanted_undef rfl rfl rfl (sv hk 31)) (sp_same (by kernel_rfl) hl hs hS (show undef = _ from rfl))
     | false =>
      exact rs_skip (wanted_undef rfl rfl rfl (sv hk 31)) (sp_same (by kernel_rfl) hl hs hS (show undef = _ from rfl))
    | false =>
     exact rs_skip (wanted_undef rfl rfl rfl (sv hk 31)) (sp_same (by kernel_rfl) hl hs hS (show undef = _ from rfl))
   | false =>
    exact rs_skip (wanted_undef rfl rfl rfl (sv hk 31)) (sp_same (by kernel_rfl) hl hs hS (show undef = _ from rfl))
  apply sc
  ·intro a w' vs σ hS hl hs hk
   cases b1 with
   | true =>
    cases b2 with
    | true =>
     cases b3 with
     | true =>
      cases b4 with
      | true =>
       cases pd with
       | true =>
        have f41 : a.tmps[41]?.getD undef = pt x 0 := sf hk 36
        have hx := (hS.base.cell (p := ⟨x, 0, none⟩) hzx).trans (hxx 0)
        exact rq (.int .i64 ↑cols) (wanted_yes rfl rfl rfl (sv hk 31)) (by simp [execOp, Act.eval, f41, go_sem, hx]) hl hs hS
       | false =>
        exact rs_skip (wanted_no rfl rfl rfl (sv hk 31) (by simp)) (sp_same (by kernel_rfl) hl hs hS (show undef = _ from rfl))
      | false =>
       exact rs_skip (wanted_undef rfl rfl rfl (sv hk 31)) (sp_same (by kernel_rfl) hl hs hS (show undef = _ from rfl))
     | false =>
      exact rs_skip (wanted_undef rfl rfl rfl (sv hk 31)) (sp_same (by kernel_rfl) hl hs hS (show undef = _ from rfl))
    | false =>
     exact rs_skip (wanted_undef rfl rfl rfl (sv hk 31)) (sp_same (by kernel_rfl) hl hs hS (show undef = _ from rfl))
   | false =>
    exact rs_skip (wanted_undef rfl rfl rfl (sv hk 31)) (sp_same (by kernel_rfl) hl hs hS (show undef = _ from rfl))
  apply sc
  ·intro a w' vs σ hS hl hs hk
   cases b1 with
   | true =>
    cases b2 with
    | true =>
     cases b3 with
     | true =>
      cases b4 with
      | true =>
       cases pd with
       | true =>
        have f42 : a.tmps[42]?.getD undef = .int .i64 ↑cols := sf hk 37
        exact rq (.int .i64 (↑cols - 1)) (wanted_yes rfl rfl rfl (sv hk 31)) (by simp [execOp, Act.eval, f42, go_sem, HWC.out]) hl hs hS
       | false =>
        exact rs_skip (wanted_no rfl rfl rfl (sv hk 31) (by simp)) (sp_same (by kernel_rfl) hl hs hS (show undef = _ from rfl))
      | false =>
       exact rs_skip (wanted_undef rfl rfl rfl (sv hk 31)) (sp_same (by kernel_rfl) hl hs hS (show undef = _ from rfl))
     | false =>
      exact rs_skip (wanted_undef rfl rfl rfl (sv hk 31)) (sp_same (by kernel_rfl) hl hs hS (show undef = _ from rfl))
    | false =>
     exact rs_skip (wanted_undef rfl rfl rfl (sv hk 31)) (sp_same (by kernel_rfl) hl hs hS (show undef = _ from rfl))
   | false =>
    exact rs_skip (wanted_undef rfl rfl rfl (sv hk 31)) (sp_same (by kernel_rfl) hl hs hS (show undef = _ from rfl))
  apply sc
  ·intro a w' vs σ hS hl hs hk
   cases b1 with
   | true =>
    cases b2 with
    | true =>
     cases b3 with
     | true =>
      cases b4 with
      | true =>
       cases pd with
       | true =>
        have f38 : a.tmps[38]?.getD undef = .int .i64 col := sf hk 33
        have f43 : a.tmps[43]?.getD undef = .int .i64 (↑cols - 1) := sf hk 38
        exact rq (.bool b6) (wanted_yes rfl rfl rfl (sv hk 31)) (by simp [execOp, Act.eval, f38, f43, go_sem, H6.out]) hl hs hS
       | false =>
        exact rs_skip (wanted_no rfl rfl rfl (sv hk 31) (by simp)) (sp_same (by kernel_rfl) hl hs hS (show undef = _ from rfl))
      | false =>
       exact rs_skip (wanted_undef rfl rfl rfl (sv hk 31)) (sp_same (by kernel_rfl) hl hs hS (show undef = _ from rfl))
     | false =>
      exact rs_skip (wanted_undef rfl rfl rfl (sv hk 31)) (sp_same (by kernel_rfl) hl hs hS (show undef = _ from rfl))
    | false =>
     exact rs_skip (wanted_undef rfl rfl rfl (sv hk 31)) (sp_same (by kernel_rfl) hl hs hS (show undef = _ from rfl))
   | false =>
    exact rs_skip (wanted_undef rfl rfl rfl (sv hk 31)) (sp_same (by kernel_rfl) hl hs hS (show undef = _ from rfl))
  apply sc
  ·intro a w' vs σ hS hl hs hk
   cases b1 with
   | true =>
    cases b2 with
    | true =>
     cases b3 with
     | true =>
      cases b4 with
      | true =>
       cases pd with
       | true =>
        have e36 : a.tmps.getD 36 undef = .bool (!true) := sv hk 31
        have f36 := gd e36
        have e44 : a.tmps.getD 44 undef = .bool b6 := sv hk 39
        have f44 := gd e44
        exact rq (.bool (!true || b6)) (wanted_yes rfl rfl rfl (sv hk 27)) (by simp [execOp, Act.eval, e36, f36, e44, f44, go_sem]) hl hs hS
       | false =>
        have e36 : a.tmps.getD 36 undef = .bool (!false) := sv hk 31
        have f36 := gd e36
        have e44 : a.tmps.getD 44 undef = (undef : Value) := sv hk 39
        have f44 := gd e44
        exact rq (.bool (!false || b6)) (wanted_yes rfl rfl rfl (sv hk 27)) (by simp [execOp, Act.eval, e36, f36, e44, f44, go_sem]) hl hs hS
      | false =>
       exact rs_skip (wanted_no rfl rfl rfl (sv hk 27) (by simp)) (sp_same (by kernel_rfl) hl hs hS (show undef = _ from rfl))
     | false =>
      exact rs_skip (wanted_no rfl rfl rfl (sv hk 27) (by simp)) (sp_same (by kernel_rfl) hl hs hS (show undef = _ from rfl))
    | false =>
     exact rs_skip (wanted_no rfl rfl rfl (sv hk 27) (by simp)) (sp_same (by kernel_rfl) hl hs hS (show undef = _ from rfl))
   | false =>
    exact rs_skip (wanted_no rfl rfl rfl (sv hk 27) (by simp)) (sp_same (by kernel_rfl) hl hs hS (show undef = _ from rfl))
  apply sc
  ·intro a w' vs σ hS hl hs hk
   cases b1 with
   | true =>
    cases b2 with
    | true =>
     cases b3 with
     | true =>
      cases b4 with
      | true =>
       have e32 : a.tmps.getD 32 undef = .bool (true && true && true && true) := sv hk 27
       have f32 := gd e32
       have e45 : a.tmps.getD 45 undef = .bool (!pd || b6) := sv hk 40
       have f45 := gd e45
       exact rp (.bool (true && true && true && true && (!pd || b6))) (by simp [execOp, Act.eval, e32, f32, e45, f45, go_sem]) hl hs hS
      | false =>
       have e32 : a.tmps.getD 32 undef = .bool (true && true && true && false) := sv hk 27
       have f32 := gd e32
       have e45 : a.tmps.getD 45 undef = (undef : Value) := sv hk 40
       have f45 := gd e45
       exact rp (.bool (true && true && true && false && (!pd || b6))) (by simp [execOp, Act.eval, e32, f32, e45, f45, go_sem]) hl hs hS
     | false =>
      cases b4 with
      | true =>
       have e32 : a.tmps.getD 32 undef = .bool (true && true && false && true) := sv hk 27
       have f32 := gd e32
       have e45 : a.tmps.getD 45 undef = (undef : Value) := sv hk 40
       have f45 := gd e45
       exact rp (.bool (true && true && false && true && (!pd || b6))) (by simp [execOp, Act.eval, e32, f32, e45, f45, go_sem]) hl hs hS
      | false =>
       have e32 : a.tmps.getD 32 undef = .bool (true && true && false && false) := sv hk 27
       have f32 := gd e32
       have e45 : a.tmps.getD 45 undef = (undef : Value) := sv hk 40
       have f45 := gd e45
       exact rp (.bool (true && true && false && false && (!pd || b6))) (by simp [execOp, Act.eval, e32, f32, e45, f45, go_sem]) hl hs hS
    | false =>
     cases b3 with
     | true =>
      cases b4 with
      | true =>
       have e32 : a.tmps.getD 32 undef = .bool (true && false && true && true) := sv hk 27
       have f32 := gd e32
       have e45 : a.tmps.getD 45 undef = (undef : Value) := sv hk 40
       have f45 := gd e45
       exact rp (.bool (true && false && true && true && (!pd || b6))) (by simp [execOp, Act.eval, e32, f32, e45, f45, go_sem]) hl hs hS
      | false =>
       have e32 : a.tmps.getD 32 undef = .bool (true && false && true && false) := sv hk 27
       have f32 := gd e32
       have e45 : a.tmps.getD 45 undef = (undef : Value) := sv hk 40
       have f45 := gd e45
       exact rp (.bool (true && false && true && false && (!pd || b6))) (by simp [execOp, Act.eval, e32, f32, e45, f45, go_sem]) hl hs hS
     | false =>
      cases b4 with
      | true =>
       have e32 : a.tmps.getD 32 undef = .bool (true && false && false && true) := sv hk 27
       have f32 := gd e32
       have e45 : a.tmps.getD 45 undef = (undef : Value) := sv hk 40
       have f45 := gd e45
       exact rp (.bool (true && false && false && true && (!pd || b6))) (by simp [execOp, Act.eval, e32, f32, e45, f45, go_sem]) hl hs hS
      | false =>
       have e32 : a.tmps.getD 32 undef = .bool (true && false && false && false) := sv hk 27
       have f32 := gd e32
       have e45 : a.tmps.getD 45 undef = (undef : Value) := sv hk 40
       have f45 := gd e45
       exact rp (.bool (true && false && false && false && (!pd || b6))) (by simp [execOp, Act.eval, e32, f32, e45, f45, go_sem]) hl hs hS
   | false =>
    cases b2 with
    | true =>
     cases b3 with
     | true =>
      cases b4 with
      | true =>
       have e32 : a.tmps.getD 32 undef = .bool (false && true && true && true) := sv hk 27
       have f32 := gd e32
       have e45 : a.tmps.getD 45 undef = (undef : Value) := sv hk 40
       have f45 := gd e45
       exact rp (.bool (false && true && true && true && (!pd || b6))) (by simp [execOp, Act.eval, e32, f32, e45, f45, go_sem]) hl hs hS
      | false =>
       have e32 : a.tmps.getD 32 undef = .bool (false && true && true && false) := sv hk 27
       have f32 := gd e32
       have e45 : a.tmps.getD 45 undef = (undef : Value) := sv hk 40
       have f45 := gd e45
       exact rp (.bool (false && true && true && false && (!pd || b6))) (by simp [execOp, Act.eval, e32, f32, e45, f45, go_sem]) hl hs hS
     | false =>
      cases b4 with
      | true =>
       have e32 : a.tmps.getD 32 undef = .bool (false && true && false && true) := sv hk 27
       have f32 := gd e32
       have e45 : a.tmps.getD 45 undef = (undef : Value) := sv hk 40
       have f45 := gd e45
       exact rp (.bool (false && true && false && true && (!pd || b6))) (by simp [execOp, Act.eval, e32, f32, e45, f45, go_sem]) hl hs hS
      | false =>
       have e32 : a.tmps.getD 32 undef = .bool (false && true && false && false) := sv hk 27
       have f32 := gd e32
       have e45 : a.tmps.getD 45 undef = (undef : Value) := sv hk 40
       have f45 := gd e45
       exact rp (.bool (false && true && false && false && (!pd || b6))) (by simp [execOp, Act.eval, e32, f32, e45, f45, go_sem]) hl hs hS
    | false =>
     cases b3 with
     | true =>
      cases b4 with
      | true =>
       have e32 : a.tmps.getD 32 undef = .bool (false && false && true && true) := sv hk 27
       have f32 := gd e32
       have e45 : a.tmps.getD 45 undef = (undef : Value) := sv hk 40
       have f45 := gd e45
       exact rp (.bool (false && false && true && true && (!pd || b6))) (by simp [execOp, Act.eval, e32, f32, e45, f45, go_sem]) hl hs hS
      | false =>
       have e32 : a.tmps.getD 32 undef = .bool (false && false && true && false) := sv hk 27
       have f32 := gd e32
       have e45 : a.tmps.getD 45 undef = (undef : Value) := sv hk 40
       have f45 := gd e45
       exact rp (.bool (false && false && true && false && (!pd || b6))) (by simp [execOp, Act.eval, e32, f32, e45, f45, go_sem]) hl hs hS
     | false =>
      cases b4 with
      | true =>
       have e32 : a.tmps.getD 32 undef = .bool (false && false && false && true) := sv hk 27
       have f32 := gd e32
       have e45 : a.tmps.getD 45 undef = (undef : Value) := sv hk 40
       have f45 := gd e45
       exact rp (.bool (false && false && false && true && (!pd || b6))) (by simp [execOp, Act.eval, e32, f32, e45, f45, go_sem]) hl hs hS
      | false =>
       have e32 : a.tmps.getD 32 undef = .bool (false && false && false && false) := sv hk 27
       have f32 := gd e32
       have e45 : a.tmps.getD 45 undef = (undef : Value) := sv hk 40
       have f45 := gd e45
       exact rp (.bool (false && false && false && false && (!pd || b6))) (by simp [execOp, Act.eval, e32, f32, e45, f45, go_sem]) hl hs hS
  apply sc
  ·intro a w' vs σ hS hl hs hk
   have f46 : a.tmps[46]?.getD undef = .bool (b1 && b2 && b3 && b4 && (!pd || b6)) := sf hk 41
   exact rp (.bool (b1 && b2 && b3 && b4 && (!pd || b6))) (by simp [execOp, Act.eval, f46, go_sem]) hl hs hS
  exact SSteps.nil
 ·intro vs w' hS hv
  have q0 : vs 0 = _ := hv 0 (by decide)
  have q1 : vs 1 = _ := hv 1 (by decide)
  have q2 : vs 2 = _ := hv 2 (by decide)
  have q3 : vs 3 = _ := hv 3 (by decide)
  have q4 : vs 4 = _ := hv 4 (by decide)
  have q5 : vs 5 = _ := hv 5 (by decide)
  have q6 : vs 6 = _ := hv 6 (by decide)
  have q7 : vs 7 = _ := hv 7 (by decide)
  have q8 : vs 8 = _ := hv 8 (by decide)
  have q9 : vs 9 = _ := hv 9 (by decide)
  have q10 : vs 10 = _ := hv 10 (by decide)
  have q11 : vs 11 = _ := hv 11 (by decide)
  have q12 : vs 12 = _ := hv 12 (by decide)
  have q13 : vs 13 = _ := hv 13 (by decide)
  have q14 : vs 14 = _ := hv 14 (by decide)
  have q15 : vs 15 = _ := hv 15 (by decide)
  have q16 : vs 16 = _ := hv 16 (by decide)
  have q17 : vs 17 = _ := hv 17 (by decide)
  have q18 : vs 18 = _ := hv 18 (by decide)
  have q19 : vs 19 = _ := hv 19 (by decide)
  have q20 : vs 20 = _ := hv 20 (by decide)
  have q21 : vs 21 = _ := hv 21 (by decide)
  have q22 : vs 22 = _ := hv 22 (by decide)
  have q23 : vs 23 = _ := hv 23 (by decide)
  have q24 : vs 24 = _ := hv 24 (by decide)
  have q25 : vs 25 = _ := hv 25 (by decide)
  have q26 : vs 26 = _ := hv 26 (by decide)
  have q27 : vs 27 = _ := hv 27 (by decide)
  have q28 : vs 28 = _ := hv 28 (by decide)
  have q29 : vs 29 = _ := hv 29 (by decide)
  have q30 : vs 30 = _ := hv 30 (by decide)
  have q31 : vs 31 = _ := hv 31 (by decide)
  have q32 : vs 32 = _ := hv 32 (by decide)
  have q33 : vs 33 = _ := hv 33 (by decide)
  have q34 : vs 34 = _ := hv 34 (by decide)
  have q35 : vs 35 = _ := hv 35 (by decide)
  have q36 : vs 36 = _ := hv 36 (by decide)
  have q37 : vs 37 = _ := hv 37 (by decide)
  have q38 : vs 38 = _ := hv 38 (by decide)
  have q39 : vs 39 = _ := hv 39 (by decide)
  have q40 : vs 40 = _ := hv 40 (by decide)
  have q41 : vs 41 = _ := hv 41 (by decide)
  have q42 : vs 42 = _ := hv 42 (by decide)
  have S2 := Lib.hid hS
  simp only [putL, Act.put, Nat.zero_add, Nat.reduceAdd, List.setIfInBounds_toArray, List.set_cons_succ, List.set_cons_zero, q0, q1, q2, q3, q4, q5, q6, q7, q8, q9, q10, q11, q12, q13, q14, q15, q16, q17, q18, q19, q20, q21, q22, q23, q24, q25, q26, q27, q28, q29, q30, q31, q32, q33, q34, q35, q36, q37, q38, q39, q40, q41, q42]
  clear hS hv q0 q1 q2 q3 q4 q5 q6 q7 q8 q9 q10 q11 q12 q13 q14 q15 q16 q17 q18 q19 q20 q21 q22 q23 q24 q25 q26 q27 q28 q29 q30 q31 q32 q33 q34 q35 q36 q37 q38 q39 q40 q41 q42
  have S3 := Lib.hid (S1.out.bel S2.out.base)
  clear S2 S1
  go_wp2_with fail
  go_ret
  exact ⟨by rw [HE.out]; rfl, S3.out.tail⟩
set_option maxHeartbeats 4000000 in
theorem prWraps_no (row col : Int) (pend auto : Bool) (r : Int) (hS : Objs w0 w os) (hk : os[k]? = some (.grid p 58 cols L)) (hc : 0 < cols) (hcm : cols ≤ 1000) (hL : 0 < L.length) (hin : inG row col pend L.length cols = false) :
  Calls Tryd.prog 37 #[.pointer (some ⟨p, 0, none⟩), .agg #[.int .i64 row, .int .i64 col, .bool pend], .int .i32 r, .bool auto] w fun e w' => e = .returned (.tuple #[.bool false, .int .i64 2]) ∧ Objs w0 w' os := by
 have S0 := Lib.hid hS
 have HK := Lib.hid hk
 have HE := Lib.hid (show chkE row col pend L.length cols = 2 by unfold chkE; rw [hin]; rfl)
 clear hS hk
 go_enter Tryd.func37, Tryd.ntmps37
 go_upto_region 1 with (fail)
 refine at_objsC S0.out.alloc1 (fun W hW => ?_)
 generalize w.heap.size = bc at hW ⊢
 obtain ⟨hxc, hfc, hzc⟩ := (hW.box (k := 0) rfl).facts
 have S1 := Lib.hid hW
 clear hW S0
 go_wp2_with fail
 have hcon := prcheck_any row col pend S1.out (k := k + 1) HK.out hc hcm hL
 rw [HE.out] at hcon
 refine hcon.mono ?_
 rintro e w1 ⟨rfl, hS⟩
 have S2 := Lib.hid hS
 clear hS S1 hcon hxc hfc hzc
 go_wp2_with fail
 go_ret2
 exact ⟨rfl, S2.out.tail⟩
set_option maxHeartbeats 4000000 in
theorem prWraps_yes (row col : Int) (pend auto : Bool) (r : Int) (hT : Tabs w0) (hS : Objs w0 w os) (hk : os[k]? = some (.grid p 58 cols L)) (hc : 0 < cols) (hcm : cols ≤ 1000) (hL : 0 < L.length) (hin : inG row col pend L.length cols = true) :
  Calls Tryd.prog 37 #[.pointer (some ⟨p, 0, none⟩), .agg #[.int .i64 row, .int .i64 col, .bool pend], .int .i32 r, .bool auto] w fun e w' => e = .returned (if wOf r < 1 then .tuple #[.bool false, .int .i64 2] else .tuple #[.bool (wrapB cols col pend auto (wOf r)), .int .i64 0]) ∧ Objs w0 w' os := by
 have S0 := Lib.hid hS
 have HK := Lib.hid hk
 have HT := Lib.hid hT
 have HE := Lib.hid (show chkE row col pend L.length cols = 0 by unfold chkE; rw [hin]; rfl)
 clear hS hk hT
 obtain ⟨n, hn⟩ : ∃ n, wOf r = n := ⟨_, rfl⟩
 have HW := Lib.hid hn
 rw [hn]
 clear hn
 by_cases h1 : n < 1
 ·rw [if_pos h1]
  go_enter Tryd.func37, Tryd.ntmps37
  go_upto_region 1 with (fail)
  refine at_objsC S0.out.alloc1 (fun W hW => ?_)
  generalize w.heap.size = bc at hW ⊢
  obtain ⟨hxc, hfc, hzc⟩ := (hW.box (k := 0) rfl).facts
  have S1 := Lib.hid hW
  clear hW S0
  go_wp2_with fail
  have hcon := prcheck_any row col pend S1.out (k := k + 1) HK.out hc hcm hL
  rw [HE.out] at hcon
  refine hcon.mono ?_
  rintro e w1 ⟨rfl, hS⟩
  have S2 := Lib.hid hS
  clear hS S1 hcon hxc hfc hzc
  go_wp2_with fail
  refine (width_is HW.out _ (S2.out.tabs HT.out)).mono ?_
  rintro e w2 ⟨rfl, hb⟩
  have S3 := Lib.hid (S2.out.bel hb)
  clear hb S2
  go_wp2_with fail
  go_ret2
  exact ⟨rfl, S3.out.tail⟩
 ·rw [if_neg h1]
  go_enter Tryd.func37, Tryd.ntmps37
  go_upto_region 1 with (fail)
  refine at_objsC S0.out.alloc1 (fun W hW => ?_)
  generalize w.heap.size = bc at hW ⊢
  obtain ⟨hxc, hfc, hzc⟩ := (hW.box (k := 0) rfl).facts
  have S1 := Lib.hid hW
  clear hW S0
  go_wp2_with fail
  have hcon := prcheck_any row col pend S1.out (k := k + 1) HK.out hc hcm hL
  rw [HE.out] at hcon
  refine hcon.mono ?_
  rintro e w1 ⟨rfl, hS⟩
  have S2 := Lib.hid hS
  clear hS S1 hcon hxc hfc hzc
  go_wp2_with fail
  refine (width_is HW.out _ (S2.out.tabs HT.out)).mono ?_
  rintro e w2 ⟨rfl, hb⟩
  have S3 := Lib.hid (S2.out.bel hb)
  clear hb S2
  obtain ⟨hxc, hfc, hzc⟩ := (S3.out.box (k := 0) rfl).facts
  go_wp2_with fail
  refine (prwraps_any row col pend auto n S3.out (k := k + 1) HK.out hc hcm).mono ?_
  rintro e w3 ⟨rfl, hS⟩
  have S4 := Lib.hid hS
  clear hS S3 hxc hfc hzc
  go_wp2_with fail
  go_ret2
  exact ⟨rfl, S4.out.tail⟩
end
end Go.Proofs.YtppijfjigcoifaaDoor
