/-
  Part 4 of the texts on which the proofs of this seat stand: each part says ahead of it what it shows.
-/
import Derived.Test.YtdndoikgnohkkaaDoorC3
set_option linter.unusedSimpArgs false
set_option linter.unusedVariables false
namespace Go.Proofs.YtdndoikgnohkkaaDoor
open Go.RowKit

section
variable {w0 w : World} {os : List Ob} {p : Nat} {s : Pr}
set_option maxRecDepth 100000 in
set_option maxHeartbeats 4000000 in
theorem rEnter_front {rr : Nat} (n : Int) (x : Saved) (q : Pen) (hS : Objs w0 w (refO p s :: os)) (hg : s.good rr) :
  Calls Tryd.prog 57 #[.pointer (some ⟨p, 0, none⟩), .int .i64 n, .agg (sv x), .agg (pv q)] w fun e w' => e = .returned (.tuple #[]) ∧ Objs w0 w' (refO p (entN n x q s) :: os) := by
 obtain ⟨m, o, hO⟩ := hS.openRef
 have S := Lib.hid hO
 have HG := Lib.hid hg
 clear hS hO hg
 by_cases h : n = 1049
 case' pos => have b2 := beq_yes h; have HN := Lib.hid (show entN n x q s = { s with mode := n, kept := some x, O := wipeN s.cols q s.O } from if_pos h); clear h
 case' neg => have b2 := beq_no h; have HN := Lib.hid (show entN n x q s = { s with mode := n } from if_neg h); clear h
 all_goals
  go_enter Tryd.func57, Tryd.ntmps57
  go_upto_region 1 with (fail)
  refine at_objsC (S.out.alloc2 (c1 := sv x) (t1 := 35) (c2 := pv q) (t2 := 29)) (fun W hW => ?_)
  generalize w.heap.size + 1 = b7 at hW ⊢
  generalize w.heap.size = b6 at hW ⊢
  have S1 := Lib.hid hW
  clear hW S
  obtain ⟨hx, hf, hz, hr⟩ := (S1.out.box (k := 2) rfl).rpair
  go_upto_region 2 with (fail)
  refine at_objsC (S1.out.setBox 2 (i := 2) (u := .int .i64 n) rfl) (fun W2 hW => ?_)
  clear hx hf hz hr
  have S2 := Lib.hid (show Objs w0 W2 (.box b7 29 (pv q) :: .box b6 35 (sv x) :: .box p 103 (rpv m o n (s.kept.getD saved0) s.kept.isSome) :: .grid m 106 s.cols s.M :: .grid o 106 s.cols s.O :: os) by rw [← rpv_set2 m o s.mode]; exact hW)
  clear hW S1
  obtain ⟨hx, hf, hz, hr⟩ := (S2.out.box (k := 2) rfl).rpair
  obtain ⟨hx6, hf6, hz6, hr6, hp6⟩ := (S2.out.box (k := 1) rfl).saved
  have hst := store_rpv (S2.out.box (k := 2) rfl)
 ·go_wp2_with fail
  go_end0
  refine ⟨rfl, ?_⟩
  rw [HN.out]
  exact Objs.closeRef (m := m) (o := o) S2.out.tail.tail
 ·obtain ⟨hx1, hf1⟩ := S2.out.keptFacts (k := 2) rfl x
  go_upto_region 4 with (fail)
  refine at_objsC (S2.out.keepRef2 (k := 2) rfl x true) (fun W3 hW => ?_)
  clear hx hf hz hr hx1 hf1 hst hx6 hf6 hz6 hr6 hp6
  have S3 := Lib.hid hW
  clear hW S2
  obtain ⟨hx7, hf7, hz7⟩ := (S3.out.box (k := 0) rfl).facts
  have hp7 := (S3.out.box (k := 0) rfl).penAt
  go_wp2_with fail
  refine (rwipe_at q S3.out (k := 2) (j := 4) rfl rfl (by decide) HG.out.c0 HG.out.cm HG.out.O.1 (by rw [HG.out.O.2.1]; exact HG.out.rm)).mono ?_
  rintro e w4 ⟨rfl, hS⟩
  have S4 := Lib.hid hS
  clear hS S3 hx7 hf7 hz7 hp7
  go_wp2_with fail
  go_end0
  refine ⟨rfl, ?_⟩
  rw [HN.out]
  exact Objs.closeRef (m := m) (o := o) S4.out.tail.tail
set_option maxRecDepth 100000 in
set_option maxHeartbeats 4000000 in
theorem rLeave_front {rr : Nat} (n : Int) (q : Pen) (hS : Objs w0 w (refO p s :: os)) (hg : s.good rr) :
  Calls Tryd.prog 58 #[.pointer (some ⟨p, 0, none⟩), .int .i64 n, .agg (pv q)] w fun e w' => e = .returned (.tuple #[.agg (sv ((lvS n s).getD saved0)), .bool (lvS n s).isSome]) ∧ Objs w0 w' (refO p (lvN n q s) :: os) := by
 obtain ⟨m, o, hO⟩ := hS.openRef
 have S := Lib.hid hO
 have HG := Lib.hid hg
 clear hS hO hg
 have hc : n = 1047 ∨ (¬ n = 1047 ∧ n = 1049) ∨ (¬ n = 1047 ∧ ¬ n = 1049) := by omega
 rcases hc with h | ⟨h, h2⟩ | ⟨h, h2⟩
 case' inl => have b2 := beq_yes h; have b3 := bne_yes (show ¬ n = 1049 by omega); have HN := Lib.hid (show lvN n q s = { s with mode := 0, O := wipeN s.cols q s.O } from if_pos h); have HL := Lib.hid (show lvS n s = none from if_neg (by omega)); clear h
 case' inr.inl => have b2 := beq_no h; have b3 := bne_no h2; have HN := Lib.hid (show lvN n q s = { s with mode := 0, kept := none } by unfold lvN; rw [if_neg h, if_pos h2]); have HL := Lib.hid (show lvS n s = s.kept from if_pos h2); clear h h2
 case' inr.inr => have b2 := beq_no h; have b3 := bne_yes h2; have HN := Lib.hid (show lvN n q s = { s with mode := 0 } by unfold lvN; rw [if_neg h, if_neg h2]); have HL := Lib.hid (show lvS n s = none from if_neg h2); clear h h2
 all_goals
  go_enter Tryd.func58, Tryd.ntmps58
  go_upto_region 1 with (fail)
  refine at_objsC (S.out.alloc2 (c1 := pv q) (t1 := 29) (c2 := sv saved0) (t2 := 35)) (fun W hW => ?_)
  generalize w.heap.size + 1 = b6 at hW ⊢
  generalize w.heap.size = b5 at hW ⊢
  have S1 := Lib.hid hW
  clear hW S
  obtain ⟨hx, hf, hz, hr⟩ := (S1.out.box (k := 2) rfl).rpair
  go_upto_region 2 with (fail)
  refine at_objsC (S1.out.setBox 2 (i := 2) (u := .int .i64 0) rfl) (fun W2 hW => ?_)
  clear hx hf hz hr
  have S2 := Lib.hid (show Objs w0 W2 (.box b6 35 (sv saved0) :: .box b5 29 (pv q) :: .box p 103 (rpv m o 0 (s.kept.getD saved0) s.kept.isSome) :: .grid m 106 s.cols s.M :: .grid o 106 s.cols s.O :: os) by rw [← rpv_set2 m o s.mode]; exact hW)
  clear hW S1
 ·have hst6 := fun c => store_sv_row W2 b6 _ c (S2.out.box (k := 0) rfl) rfl
  go_wp2_with fail
  refine at_objsP (S2.out.rowBox 0 (ds := sv saved0) rfl) (fun W6 hW => ?_)
  have S6 := Lib.hid hW
  clear hW
  refine bodyPost_ret (results_cell2 Tryd.results58 _ _ b6 35 _ _ rfl (S6.out.box (k := 0) rfl) Tryd.underlying35 rfl (by rw [sv_size]; exact saved_size)) rfl ?_
  rw [HL.out]
  refine ⟨rfl, ?_⟩
  rw [HN.out]
  exact Objs.closeRef (m := m) (o := o) S6.out.tail.tail
 ·go_upto_region 6 with (fail)
  refine wp_region_stage (w0 := w0) (os := .grid m 106 ↑s.cols s.M :: .grid o 106 ↑s.cols s.O :: os) (by kernel_rfl) (by kernel_rfl) (by kernel_rfl) [(0, 8, [8], fun vs => .box (blkOf (vs 8)) 35 (sv saved0)), (0, 9, [8], fun vs => .box (blkOf (vs 8)) 35 (sv (s.kept.getD saved0)))] [[], [], [], [3], [], [], [], [3], [0], [0], []] [.none, .box b6 35 (sv saved0), .box b5 29 (pv q), .box p 103 (rpv m o 0 (s.kept.getD saved0) s.kept.isSome)] (fun opn u => match opn with | 0 => u = .pointer (some ⟨p, 0, none⟩) | 1 => u = .pointer (some ⟨p, 0, none⟩) | 2 => u = .pointer (some ⟨p, 3, none⟩) | 3 => u = .agg (sv (s.kept.getD saved0)) | 4 => u = .pointer (some ⟨p, 0, none⟩) | 5 => u = .pointer (some ⟨p, 0, none⟩) | 6 => u = .pointer (some ⟨p, 21, none⟩) | 7 => u = .bool s.kept.isSome | 8 => ∃ g, u = .pointer (some ⟨g, 0, none⟩) | 9 => True | 10 => u = .bool s.kept.isSome | _ => True) (fun vs => [.box (blkOf (vs 8)) 35 (sv (s.kept.getD saved0)), .box b6 35 (sv saved0), .box b5 29 (pv q), .box p 103 (rpv m o 0 (s.kept.getD saved0) s.kept.isSome)]) (by kernel_rfl) (fun vs => by rfl) S2.out.pad ?_ ?_
  ·apply sc
   ·intro a w' vs σ hS hl hs hk
    have f0 : a.tmps[0]?.getD undef = .pointer (some ⟨p, 0, none⟩) := sof hk
    exact rp (pt p 0) (by simp [execOp, Act.eval, f0, go_sem]) hl hs hS
   apply sc
   ·intro a w' vs σ hS hl hs hk
    have f21 : a.tmps[21]?.getD undef = .pointer (some ⟨p, 0, none⟩) := svf hk 0
    exact rp (pt p 0) (by simp [execOp, Act.eval, f21, go_sem]) hl hs hS
   apply sc
   ·intro a w' vs σ hS hl hs hk
    have f22 : a.tmps[22]?.getD undef = .pointer (some ⟨p, 0, none⟩) := svf hk 1
    exact rp (pt p 3) (by simp [execOp, Act.eval, f22, go_sem]) hl hs hS
   apply sc
   ·intro a w' vs σ hS hl hs hk
    have f23 : a.tmps[23]?.getD undef = .pointer (some ⟨p, 3, none⟩) := svf hk 2
    have hx := (hS.box (sg (hs 3 (by decide)))).rpair.2.2.2
    exact rp (.agg (sv (s.kept.getD saved0))) (by simp [execOp, Act.eval, f23, go_sem, hx]) hl hs hS
   apply sc
   ·intro a w' vs σ hS hl hs hk
    have f0 : a.tmps[0]?.getD undef = .pointer (some ⟨p, 0, none⟩) := sof hk
    exact rp (pt p 0) (by simp [execOp, Act.eval, f0, go_sem]) hl hs hS
   apply sc
   ·intro a w' vs σ hS hl hs hk
    have f25 : a.tmps[25]?.getD undef = .pointer (some ⟨p, 0, none⟩) := svf hk 4
    exact rp (pt p 0) (by simp [execOp, Act.eval, f25, go_sem]) hl hs hS
   apply sc
   ·intro a w' vs σ hS hl hs hk
    have f26 : a.tmps[26]?.getD undef = .pointer (some ⟨p, 0, none⟩) := svf hk 5
    exact rp (pt p 21) (by simp [execOp, Act.eval, f26, go_sem]) hl hs hS
   apply sc
   ·intro a w' vs σ hS hl hs hk
    have f27 : a.tmps[27]?.getD undef = .pointer (some ⟨p, 21, none⟩) := svf hk 6
    have hx := (hS.box (sg (hs 3 (by decide)))).cell
    exact rp (.bool s.kept.isSome) (by simp [execOp, Act.eval, f27, go_sem, hx]) hl hs hS
   apply sc
   ·intro a w' vs σ hS hl hs hk
    have h1 : σ[0]? = some .none := hs 0 (by decide)
    exact rs_run (v' := .pointer (some ⟨w'.heap.size, 0, none⟩)) (w' := w'.alloc (.cells (sv saved0) 35)) (wanted_none rfl) (by first | (simp [execOp, go_sem]; done) | (simp [execOp, go_sem]; rfl) | rfl) (sp_set 0 (.box w'.heap.size 35 (sv saved0)) (by kernel_rfl) (by simp) (by decide) hl hs (by rfl) (hS.alloc1.place (sg h1)) ⟨_, rfl⟩)
   apply sc
   ·intro a w' vs σ hS hl hs hk
    have e8 : a.tmps.getD 8 undef = vs 8 := sk_val hk 8 (by kernel_rfl) rfl rfl
    have p8 : (fun u : Value => ∃ g, u = .pointer (some ⟨g, 0, none⟩)) (vs 8) := (hk.1 8 (by kernel_rfl)).1
    have f8 := gd e8
    have f24 : a.tmps[24]?.getD undef = .agg (sv (s.kept.getD saved0)) := svf hk 3
    obtain ⟨g9, q9⟩ := p8
    have h1 : σ[0]? = some (.box (blkOf (vs 8)) 35 (sv saved0)) := hs 0 (by decide)
    rw [q9, show blkOf (.pointer (some ⟨g9, 0, none⟩)) = g9 from rfl] at h1
    have hst := store_sv_row w' g9 (sv saved0) (s.kept.getD saved0) (hS.box (sg h1)) (sv_size _)
    exact rstep_store (w2 := w'.setRow g9 (sv (s.kept.getD saved0))) (wanted_none rfl) rfl (by simp [execOp, Act.eval, e8, f8, f24, q9, hst, go_sem]) (sp_set 0 (.box g9 35 (sv (s.kept.getD saved0))) (by kernel_rfl) (by simp) (by decide) hl hs (by show Ob.box (blkOf (vs 8)) 35 (sv (s.kept.getD saved0)) = _; rw [q9]; rfl) (hS.rowBox 0 (ds := sv (s.kept.getD saved0)) (sg h1)) trivial) trivial
   apply sc
   ·intro a w' vs σ hS hl hs hk
    have f28 : a.tmps[28]?.getD undef = .bool s.kept.isSome := svf hk 7
    exact rp (.bool s.kept.isSome) (by simp [execOp, Act.eval, f28, go_sem]) hl hs hS
   exact SSteps.nil
  ·intro vs w' hS hv
   have q0 : vs 0 = _ := hv 0 (by decide)
   have q1 : vs 1 = _ := hv 1 (by decide)
   have q2 : vs 2 = _ := hv 2 (by decide)
   have q3 : vs 3 = _ := hv 3 (by decide)
   have q4 : vs 4 = _ := hv 4 (by decide)
   have q5 : vs 5 = _ := hv 5 (by decide)
   have q6 : vs 6 = _ := hv 6 (by decide)
   have q7 : vs 7 = _ := hv 7 (by decide)
   have q10 : vs 10 = _ := hv 10 (by decide)
   obtain ⟨b8, q8⟩ := (show ∃ g, vs 8 = .pointer (some ⟨g, 0, none⟩) from hv 8 (by decide))
   rw [q8, show blkOf (.pointer (some ⟨b8, 0, none⟩)) = b8 from rfl] at hS
   have S2_ := Lib.hid hS
   simp only [putL, Act.put, Nat.zero_add, Nat.reduceAdd, List.setIfInBounds_toArray, List.set_cons_succ, List.set_cons_zero, q0, q1, q2, q3, q4, q5, q6, q7, q10]
   clear hS hv q0 q1 q2 q3 q4 q5 q6 q7 q10
   simp only [q8]
   have S3 := S2_
   clear S2_ q8
   go_upto_region 7 with (fail)
   obtain ⟨hx, hf, hz, hr⟩ := (S3.out.box (k := 3) rfl).rpair
   have hst := store_rpv (S3.out.box (k := 3) rfl)
   obtain ⟨hx1, hf1⟩ := S3.out.keptFacts (k := 3) rfl saved0
   go_upto_region 8 with (fail)
   refine at_objsC (S3.out.keepRef2 (k := 3) rfl saved0 false) (fun W4 hW => ?_)
   clear hx hf hz hr hst hx1 hf1 S2
   have S4 := Lib.hid hW
   clear hW S3
   obtain ⟨hx8, hf8, hz8, hr8, hp8⟩ := (S4.out.box (k := 0) rfl).saved
   have hst6 := fun c => store_sv_row W4 b6 _ c (S4.out.box (k := 1) rfl) rfl
   go_wp2_with fail
   refine at_objsP (S4.out.rowBox 1 (ds := sv (s.kept.getD saved0)) rfl) (fun W6 hW => ?_)
   have S6 := Lib.hid hW
   clear hW
   refine bodyPost_ret (results_cell2 Tryd.results58 _ _ b6 35 _ _ rfl (S6.out.box (k := 1) rfl) Tryd.underlying35 rfl (by rw [sv_size]; exact saved_size)) rfl ?_
   rw [HL.out]
   refine ⟨rfl, ?_⟩
   rw [HN.out]
   exact Objs.closeRef (m := m) (o := o) S6.out.tail.tail.tail
 ·go_upto_region 3 with (fail)
  obtain ⟨hx7, hf7, hz7⟩ := (S2.out.box (k := 1) rfl).facts
  have hp7 := (S2.out.box (k := 1) rfl).penAt
  go_wp2_with fail
  refine (rwipe_at q S2.out (k := 2) (j := 4) rfl rfl (by decide) HG.out.c0 HG.out.cm HG.out.O.1 (by rw [HG.out.O.2.1]; exact HG.out.rm)).mono ?_
  rintro e w4 ⟨rfl, hS⟩
  have S4 := Lib.hid hS
  clear hS S2 hx7 hf7 hz7 hp7
  have hst6 := fun c => store_sv_row w4 b6 _ c (S4.out.box (k := 0) rfl) rfl
  go_wp2_with fail
  refine at_objsP (S4.out.rowBox 0 (ds := sv saved0) rfl) (fun W6 hW => ?_)
  have S6 := Lib.hid hW
  clear hW
  refine bodyPost_ret (results_cell2 Tryd.results58 _ _ b6 35 _ _ rfl (S6.out.box (k := 0) rfl) Tryd.underlying35 rfl (by rw [sv_size]; exact saved_size)) rfl ?_
  rw [HL.out]
  refine ⟨rfl, ?_⟩
  rw [HN.out]
  exact Objs.closeRef (m := m) (o := o) S6.out.tail.tail
end
end Go.Proofs.YtdndoikgnohkkaaDoor

namespace Go.Proofs.YtdndoikgnohkkaaDoor
open Go.RowKit

theorem eqIn_fn (d : Nat) (f : FuncId) (a b : Array Value) (w : World) : (Op.equalIn (d + 1) 52 (.func (.func f) a b) .nilFunc).run Tryd.prog w = .ok false w := by
 have u := Tryd.underlying52
 simp [Op.equalIn, run_underlying u]
theorem eqIn_fn0 (d : Nat) (w : World) : (Op.equalIn (d + 1) 52 .nilFunc .nilFunc).run Tryd.prog w = .ok true w := by
 have u := Tryd.underlying52
 simp [Op.equalIn, run_underlying u]
@[go_sem] theorem eql_fn (f : FuncId) (a b : Array Value) (w : World) : (binOp .eql 52 (.func (.func f) a b) .nilFunc).run Tryd.prog w = .ok (.bool false) w := by
 simp [binOp, Op.equal, show Op.maxDepth = 9999 + 1 from rfl, eqIn_fn 9999 f a b w]
@[go_sem] theorem eql_fn0 (w : World) : (binOp .eql 52 .nilFunc .nilFunc).run Tryd.prog w = .ok (.bool true) w := by
 simp [binOp, Op.equal, show Op.maxDepth = 9999 + 1 from rfl, eqIn_fn0 9999 w]
@[go_sem] theorem make_fn (fn : Fn) (first cap : Array Value) (w : World) : (Instr.makeFunc fn first cap).run Tryd.prog w = .ok (.func fn first cap) w := rfl
theorem ro_callv {ops : Array Oper} {Q : Exit → Act → World → Prop} {o : Oper} {a : Act} {w : World} {Φ : Value → World → Prop} {R : World → World → Prop} {f : FuncId} {first cap : Array Value} {xf : Operand} {xs : Array Operand} {args : Array Value} {ts : Array TypeId} (hw : Region.wanted o (yielded ops a.tmps) = true)
  (ho : o.op = .call { callee := .value xf, args := xs, argTypes := ts }) (hv : a.eval xf = .func (.func f) first cap) (hx : xs.map a.eval = args)
  (hf : ∀ (vs : Array Value) (w : World), (callFunc f vs).run Tryd.prog w = .ok (.enter f vs) w) (hc : Calls Tryd.prog f (first ++ args ++ cap) w fun e w2 => ∃ v, e = .returned v ∧ Φ v w2 ∧ R w w2) : RStep Tryd.prog ops Q Φ R o a w := by
 refine rstep_call (f := f) (args := first ++ args ++ cap) hw ?_ hc
 unfold execOp
 subst hx
 simp only [ho, resolve, hv, Deferred.ofValue, invoke, Sem.run_bind, Sem.run_pure, Result.andThen_ok]
 simp [go_sem, hf]
theorem front_app {P : Program} {f : FuncId} {args : Array Value} {k : Nat} {o o' : Ob} {r : Value} {w0 w : World} {σ os : List Ob} (hl : k < σ.length) (hk : σ[k]? = some o) (hS : Objs w0 w (σ ++ os))
  (hc : ∀ zs, Objs w0 w (o :: (zs ++ os)) → Calls P f args w fun e w' => e = .returned r ∧ Objs w0 w' (o' :: (zs ++ os))) : Calls P f args w fun e w' => e = .returned r ∧ Objs w0 w' ((σ ++ os).set k o') := by
 have hk' : (σ ++ os)[k]? = some o := by rw [List.getElem?_append_left hl]; exact hk
 have h1 := hS.lift hk'
 rw [List.set_append_left _ _ hl] at h1
 refine (hc _ h1).mono fun e w' ⟨a, b⟩ => ⟨a, ?_⟩
 refine Objs.lower hk' ?_
 rw [List.set_append_left _ _ hl]
 exact b
def Pr.setU (s : Pr) (L : List Ln) : Pr := if s.mode = 0 then { s with M := L } else { s with O := L }
section
variable {w0 w : World} {os : List Ob} {p : Nat} {s : Pr}
set_option maxRecDepth 100000 in
set_option maxHeartbeats 4000000 in
theorem Do_front {f : FuncId} {first cap : Array Value} {re : Int} {L2 : List Ln} (hf : ∀ (vs : Array Value) (w : World), (callFunc f vs).run Tryd.prog w = .ok (.enter f vs) w) (hS : Objs w0 w (pairO p s :: os))
  (hc : ∀ (W : World) (g : Nat) (zs : List Ob), Objs w0 W (.grid g 83 s.cols s.U :: (zs ++ os)) → Calls Tryd.prog f (first ++ #[.pointer (some ⟨g, 0, none⟩)] ++ cap) W fun e w' => e = .returned (.int .i64 re) ∧ Objs w0 w' (.grid g 83 s.cols L2 :: (zs ++ os))) :
  Calls Tryd.prog 17 #[.pointer (some ⟨p, 0, none⟩), .func (.func f) first cap] w fun e w' => e = .returned (.int .i64 re) ∧ Objs w0 w' (pairO p (s.setU L2) :: os) := by
 obtain ⟨g, m, kv, ko, hK, hO⟩ := hS.openPair
 have HK := Lib.hid hK
 have HC := Lib.hid hc
 have HF := Lib.hid hf
 clear hS hK hc hf
 have hcc : (s.mode = 0 ∧ used24 s.mode = 0 ∧ s.U = s.M ∧ s.setU L2 = { s with M := L2 }) ∨ (¬ s.mode = 0 ∧ used24 s.mode = 1 ∧ s.U = s.O ∧ s.setU L2 = { s with O := L2 }) := by
  unfold used24 Pr.U Pr.setU
  by_cases h : s.mode = 0
  ·exact .inl ⟨h, if_pos h, if_pos h, if_pos h⟩
  ·exact .inr ⟨h, if_neg h, if_neg h, if_neg h⟩
 rcases hcc with ⟨h1, h2, h3, h4⟩ | ⟨h1, h2, h3, h4⟩
 all_goals
  rw [h2] at hO
  rw [h3] at HC
  have H2 := Lib.hid h2
  have H4 := Lib.hid h4
  have S := Lib.hid hO
  clear hO h1 h2 h3 h4
  go_enter Tryd.func17, Tryd.ntmps17
  go_wp2_with fail
  refine (pnone_no S.out (k := 0) rfl).mono ?_
  rintro e w1 ⟨rfl, hS⟩
  have S1 := Lib.hid hS
  clear hS S
  go_upto_region 5 with (fail)
 ·refine wp_region_stage (w0 := w0) (os := os) (by kernel_rfl) (by kernel_rfl) (by kernel_rfl) [(1, 10, [], fun vs => .grid g 83 ↑s.cols L2)] [[], [], [], [], [], [0], [], [], [], [0], [1], []] [.box p 44 #[.pointer (some ⟨g, 0, none⟩), .pointer (some ⟨m, 0, none⟩), .int .i64 0, .int .i64 s.mode, kv], .grid g 83 ↑s.cols s.M, .grid m 83 ↑s.cols s.O, ko] (fun opn u => match opn with | 0 => u = .func (.func f) first cap | 1 => u = .pointer (some ⟨p, 0, none⟩) | 2 => u = .pointer (some ⟨p, 0, none⟩) | 3 => u = .pointer (some ⟨p, 0, none⟩) | 4 => u = .pointer (some ⟨p, 2, none⟩) | 5 => u = .int .i64 0 | 6 => u = .pointer (some ⟨p, 0, none⟩) | 7 => u = .pointer (some ⟨p, 0, none⟩) | 8 => u = .pointer (some ⟨p, 0, none⟩) | 9 => u = .pointer (some ⟨g, 0, none⟩) | 10 => u = .int .i64 re | 11 => u = .int .i64 re | _ => True) (fun vs => [.box p 44 #[.pointer (some ⟨g, 0, none⟩), .pointer (some ⟨m, 0, none⟩), .int .i64 0, .int .i64 s.mode, kv], .grid g 83 ↑s.cols L2, .grid m 83 ↑s.cols s.O, ko]) (by kernel_rfl) (fun vs => by rfl) S1.out ?_ ?_
  ·apply sc
   ·intro a w' vs σ hS hl hs hk
    have f1 : a.tmps[1]?.getD undef = .func (.func f) first cap := sof hk
    exact rp (.func (.func f) first cap) (by simp [execOp, Act.eval, f1, go_sem]) hl hs hS
   apply sc
   ·intro a w' vs σ hS hl hs hk
    have f0 : a.tmps[0]?.getD undef = .pointer (some ⟨p, 0, none⟩) := sof hk
    exact rp (pt p 0) (by simp [execOp, Act.eval, f0, go_sem]) hl hs hS
   apply sc
   ·intro a w' vs σ hS hl hs hk
    have f0 : a.tmps[0]?.getD undef = .pointer (some ⟨p, 0, none⟩) := sof hk
    exact rp (pt p 0) (by simp [execOp, Act.eval, f0, go_sem]) hl hs hS
   apply sc
   ·intro a w' vs σ hS hl hs hk
    have f13 : a.tmps[13]?.getD undef = .pointer (some ⟨p, 0, none⟩) := svf hk 2
    exact rp (pt p 0) (by simp [execOp, Act.eval, f13, go_sem]) hl hs hS
   apply sc
   ·intro a w' vs σ hS hl hs hk
    have f14 : a.tmps[14]?.getD undef = .pointer (some ⟨p, 0, none⟩) := svf hk 3
    exact rp (pt p 2) (by simp [execOp, Act.eval, f14, go_sem]) hl hs hS
   apply sc
   ·intro a w' vs σ hS hl hs hk
    have f15 : a.tmps[15]?.getD undef = .pointer (some ⟨p, 2, none⟩) := svf hk 4
    have hx := (hS.box (sg (hs 0 (by decide)))).cell
    exact rp (.int .i64 0) (by simp [execOp, Act.eval, f15, go_sem, hx]) hl hs hS
   apply sc
   ·intro a w' vs σ hS hl hs hk
    have f12 : a.tmps[12]?.getD undef = .pointer (some ⟨p, 0, none⟩) := svf hk 1
    exact rp (pt p 0) (by simp [execOp, Act.eval, f12, go_sem]) hl hs hS
   apply sc
   ·intro a w' vs σ hS hl hs hk
    have f17 : a.tmps[17]?.getD undef = .pointer (some ⟨p, 0, none⟩) := svf hk 6
    exact rp (pt p 0) (by simp [execOp, Act.eval, f17, go_sem]) hl hs hS
   apply sc
   ·intro a w' vs σ hS hl hs hk
    have f18 : a.tmps[18]?.getD undef = .pointer (some ⟨p, 0, none⟩) := svf hk 7
    have f16 : a.tmps[16]?.getD undef = .int .i64 0 := svf hk 5
    exact rp (pt p 0) (by simp [execOp, Act.eval, f18, f16, go_sem]) hl hs hS
   apply sc
   ·intro a w' vs σ hS hl hs hk
    have f19 : a.tmps[19]?.getD undef = .pointer (some ⟨p, 0, none⟩) := svf hk 8
    have hx := (hS.box (sg (hs 0 (by decide)))).cell
    exact rp (pt g 0) (by simp [execOp, Act.eval, f19, go_sem, hx]) hl hs hS
   apply sc
   ·intro a w' vs σ hS hl hs hk
    have e11 : a.tmps.getD 11 undef = .func (.func f) first cap := svv hk 0
    have e20 : a.tmps.getD 20 undef = pt g 0 := svv hk 9
    have h1 : σ[1]? = some (.grid g 83 ↑s.cols s.M) := hs 1 (by decide)
    exact ro_callv (f := f) (first := first) (cap := cap) (wanted_none rfl) rfl (by simp only [Act.eval]; exact e11) (by simp only [List.map_toArray, List.map_cons, List.map_nil, Act.eval, e20] <;> rfl) HF.out ((front_app (by rw [hl]; simp) h1 hS (fun zs h => HC.out w' g zs h)).mono fun e w2 ⟨h1, h2⟩ => ⟨_, h1, sp_set 1 (.grid g 83 ↑s.cols L2) (by kernel_rfl) (by simp) (by decide) hl hs (by rfl) h2 rfl, trivial⟩)
   apply sc
   ·intro a w' vs σ hS hl hs hk
    have f21 : a.tmps[21]?.getD undef = .int .i64 re := svf hk 10
    exact rp (.int .i64 re) (by simp [execOp, Act.eval, f21, go_sem]) hl hs hS
   exact SSteps.nil
  ·intro vs w' hS hv
   have q0 : vs 0 = _ := hv 0 (by decide)
   have q1 : vs 1 = _ := hv 1 (by decide)
   have q2 : vs 2 = _ := hv 2 (by decide)
   have q3 : vs 3 = _ := hv 3 (by decide)
   have q4 : vs 4 = _ := hv 4 (by decide)
   have q5 : vs 5 = _ := hv 5 (by decide)
   have q6 : vs 6 = _ := hv 6 (by decide)
   have q7 : vs 7 = _ := hv 7 (by decide)
   have q8 : vs 8 = _ := hv 8 (by decide)
   have q9 : vs 9 = _ := hv 9 (by decide)
   have q10 : vs 10 = _ := hv 10 (by decide)
   have q11 : vs 11 = _ := hv 11 (by decide)
   have S2 := Lib.hid hS
   simp only [putL, Act.put, Nat.zero_add, Nat.reduceAdd, List.setIfInBounds_toArray, List.set_cons_succ, List.set_cons_zero, q0, q1, q2, q3, q4, q5, q6, q7, q8, q9, q10, q11]
   clear hS hv q0 q1 q2 q3 q4 q5 q6 q7 q8 q9 q10 q11
   have S2_ := S2
   go_wp2_with fail
   go_ret
   rw [H4.out]
   refine ⟨rfl, Objs.closePair (g := g) (m := m) (kv := kv) (ko := ko) ?_ HK.out⟩
   show Objs w0 w' (.box p 44 #[.pointer (some ⟨g, 0, none⟩), .pointer (some ⟨m, 0, none⟩), .int .i64 (used24 s.mode), .int .i64 s.mode, kv] :: _)
   rw [H2.out]
   exact S2.out
 ·refine wp_region_stage (w0 := w0) (os := os) (by kernel_rfl) (by kernel_rfl) (by kernel_rfl) [(2, 10, [], fun vs => .grid m 83 ↑s.cols L2)] [[], [], [], [], [], [0], [], [], [], [0], [2], []] [.box p 44 #[.pointer (some ⟨g, 0, none⟩), .pointer (some ⟨m, 0, none⟩), .int .i64 1, .int .i64 s.mode, kv], .grid g 83 ↑s.cols s.M, .grid m 83 ↑s.cols s.O, ko] (fun opn u => match opn with | 0 => u = .func (.func f) first cap | 1 => u = .pointer (some ⟨p, 0, none⟩) | 2 => u = .pointer (some ⟨p, 0, none⟩) | 3 => u = .pointer (some ⟨p, 0, none⟩) | 4 => u = .pointer (some ⟨p, 2, none⟩) | 5 => u = .int .i64 1 | 6 => u = .pointer (some ⟨p, 0, none⟩) | 7 => u = .pointer (some ⟨p, 0, none⟩) | 8 => u = .pointer (some ⟨p, 1, none⟩) | 9 => u = .pointer (some ⟨m, 0, none⟩) | 10 => u = .int .i64 re | 11 => u = .int .i64 re | _ => True) (fun vs => [.box p 44 #[.pointer (some ⟨g, 0, none⟩), .pointer (some ⟨m, 0, none⟩), .int .i64 1, .int .i64 s.mode, kv], .grid g 83 ↑s.cols s.M, .grid m 83 ↑s.cols L2, ko]) (by kernel_rfl) (fun vs => by rfl) S1.out ?_ ?_
  ·apply sc
   ·intro a w' vs σ hS hl hs hk
    have f1 : a.tmps[1]?.getD undef = .func (.func f) first cap := sof hk
    exact rp (.func (.func f) first cap) (by simp [execOp, Act.eval, f1, go_sem]) hl hs hS
   apply sc
   ·intro a w' vs σ hS hl hs hk
    have f0 : a.tmps[0]?.getD undef = .pointer (some ⟨p, 0, none⟩) := sof hk
    exact rp (pt p 0) (by simp [execOp, Act.eval, f0, go_sem]) hl hs hS
   apply sc
   ·intro a w' vs σ hS hl hs hk
    have f0 : a.tmps[0]?.getD undef = .pointer (some ⟨p, 0, none⟩) := sof hk
    exact rp (pt p 0) (by simp [execOp, Act.eval, f0, go_sem]) hl hs hS
   apply sc
   ·intro a w' vs σ hS hl hs hk
    have f13 : a.tmps[13]?.getD undef = .pointer (some ⟨p, 0, none⟩) := svf hk 2
    exact rp (pt p 0) (by simp [execOp, Act.eval, f13, go_sem]) hl hs hS
   apply sc
   ·intro a w' vs σ hS hl hs hk
    have f14 : a.tmps[14]?.getD undef = .pointer (some ⟨p, 0, none⟩) := svf hk 3
    exact rp (pt p 2) (by simp [execOp, Act.eval, f14, go_sem]) hl hs hS
   apply sc
   ·intro a w' vs σ hS hl hs hk
    have f15 : a.tmps[15]?.getD undef = .pointer (some ⟨p, 2, none⟩) := svf hk 4
    have hx := (hS.box (sg (hs 0 (by decide)))).cell
    exact rp (.int .i64 1) (by simp [execOp, Act.eval, f15, go_sem, hx]) hl hs hS
   apply sc
   ·intro a w' vs σ hS hl hs hk
    have f12 : a.tmps[12]?.getD undef = .pointer (some ⟨p, 0, none⟩) := svf hk 1
    exact rp (pt p 0) (by simp [execOp, Act.eval, f12, go_sem]) hl hs hS
   apply sc
   ·intro a w' vs σ hS hl hs hk
    have f17 : a.tmps[17]?.getD undef = .pointer (some ⟨p, 0, none⟩) := svf hk 6
    exact rp (pt p 0) (by simp [execOp, Act.eval, f17, go_sem]) hl hs hS
   apply sc
   ·intro a w' vs σ hS hl hs hk
    have f18 : a.tmps[18]?.getD undef = .pointer (some ⟨p, 0, none⟩) := svf hk 7
    have f16 : a.tmps[16]?.getD undef = .int .i64 1 := svf hk 5
    exact rp (pt p 1) (by simp [execOp, Act.eval, f18, f16, go_sem]) hl hs hS
   apply sc
   ·intro a w' vs σ hS hl hs hk
    have f19 : a.tmps[19]?.getD undef = .pointer (some ⟨p, 1, none⟩) := svf hk 8
    have hx := (hS.box (sg (hs 0 (by decide)))).cell
    exact rp (pt m 0) (by simp [execOp, Act.eval, f19, go_sem, hx]) hl hs hS
   apply sc
   ·intro a w' vs σ hS hl hs hk
    have e11 : a.tmps.getD 11 undef = .func (.func f) first cap := svv hk 0
    have e20 : a.tmps.getD 20 undef = pt m 0 := svv hk 9
    have h1 : σ[2]? = some (.grid m 83 ↑s.cols s.O) := hs 2 (by decide)
    exact ro_callv (f := f) (first := first) (cap := cap) (wanted_none rfl) rfl (by simp only [Act.eval]; exact e11) (by simp only [List.map_toArray, List.map_cons, List.map_nil, Act.eval, e20] <;> rfl) HF.out ((front_app (by rw [hl]; simp) h1 hS (fun zs h => HC.out w' m zs h)).mono fun e w2 ⟨h1, h2⟩ => ⟨_, h1, sp_set 2 (.grid m 83 ↑s.cols L2) (by kernel_rfl) (by simp) (by decide) hl hs (by rfl) h2 rfl, trivial⟩)
   apply sc
   ·intro a w' vs σ hS hl hs hk
    have f21 : a.tmps[21]?.getD undef = .int .i64 re := svf hk 10
    exact rp (.int .i64 re) (by simp [execOp, Act.eval, f21, go_sem]) hl hs hS
   exact SSteps.nil
  ·intro vs w' hS hv
   have q0 : vs 0 = _ := hv 0 (by decide)
   have q1 : vs 1 = _ := hv 1 (by decide)
   have q2 : vs 2 = _ := hv 2 (by decide)
   have q3 : vs 3 = _ := hv 3 (by decide)
   have q4 : vs 4 = _ := hv 4 (by decide)
   have q5 : vs 5 = _ := hv 5 (by decide)
   have q6 : vs 6 = _ := hv 6 (by decide)
   have q7 : vs 7 = _ := hv 7 (by decide)
   have q8 : vs 8 = _ := hv 8 (by decide)
   have q9 : vs 9 = _ := hv 9 (by decide)
   have q10 : vs 10 = _ := hv 10 (by decide)
   have q11 : vs 11 = _ := hv 11 (by decide)
   have S2 := Lib.hid hS
   simp only [putL, Act.put, Nat.zero_add, Nat.reduceAdd, List.setIfInBounds_toArray, List.set_cons_succ, List.set_cons_zero, q0, q1, q2, q3, q4, q5, q6, q7, q8, q9, q10, q11]
   clear hS hv q0 q1 q2 q3 q4 q5 q6 q7 q8 q9 q10 q11
   have S2_ := S2
   go_wp2_with fail
   go_ret
   rw [H4.out]
   refine ⟨rfl, Objs.closePair (g := g) (m := m) (kv := kv) (ko := ko) ?_ HK.out⟩
   show Objs w0 w' (.box p 44 #[.pointer (some ⟨g, 0, none⟩), .pointer (some ⟨m, 0, none⟩), .int .i64 (used24 s.mode), .int .i64 s.mode, kv] :: _)
   rw [H2.out]
   exact S2.out
end
end Go.Proofs.YtdndoikgnohkkaaDoor

namespace Go.Proofs.YtdndoikgnohkkaaDoor
open Go.RowKit

def newL (rows cols : Nat) : List Ln := List.replicate rows (List.replicate cols (blank pen0), false)
def newP (rows cols : Nat) : Pr := ⟨cols, newL rows cols, newL rows cols, 0, none⟩
theorem newP_good {rows cols : Nat} (h1 : 1 ≤ rows) (h2 : rows ≤ 1000) (h3 : 1 ≤ cols) (h4 : cols ≤ 1000) : (newP rows cols).good rows := ⟨h3, h4, h1, h2, k24_new cols rows, k24_new cols rows⟩
section
variable {w0 w : World} {os : List Ob} {p : Nat} {s : Pr}
theorem Objs.closePair1 {g m : Nat} {kv : Value} {ko x : Ob} (h : Objs w0 w (x :: .box p 44 #[.pointer (some ⟨g, 0, none⟩), .pointer (some ⟨m, 0, none⟩), .int .i64 (used24 s.mode), .int .i64 s.mode, kv] :: .grid g 83 s.cols s.M :: .grid m 83 s.cols s.O :: ko :: os)) (hk : keptIs kv ko s.kept) : Objs w0 w (x :: pairO p s :: os) :=
 Objs.swap (Objs.closePair (g := g) (m := m) (kv := kv) (ko := ko) (os := x :: os) (Objs.pick (σ := [_, _, _, _, _]) (os := os) h [some 1, some 2, some 3, some 4, some 0] (by decide) rfl) hk)
set_option maxRecDepth 100000 in
set_option maxHeartbeats 4000000 in
theorem Main_front {rr : Nat} (hS : Objs w0 w (pairO p s :: os)) (hg : s.good rr) :
  Calls Tryd.prog 14 #[.pointer (some ⟨p, 0, none⟩)] w fun e w' => ∃ x, e = .returned (.pointer (some ⟨x, 0, none⟩)) ∧ Objs w0 w' (.grid x 83 s.cols s.M :: pairO p s :: os) := by
 obtain ⟨g, m, kv, ko, hK, hO⟩ := hS.openPair
 have S := Lib.hid hO
 have HK := Lib.hid hK
 have HG := Lib.hid hg
 clear hS hK hO hg
 go_enter Tryd.func14, Tryd.ntmps14
 go_wp2_with fail
 refine (pnone_no S.out (k := 0) rfl).mono ?_
 rintro e w1 ⟨rfl, hS⟩
 have S1 := Lib.hid hS
 clear hS S
 obtain ⟨hx, hf, hz⟩ := (S1.out.box (k := 0) rfl).facts
 go_wp2_with fail
 refine (CopyG S1.out (k := 1) rfl HG.out.c0 HG.out.cm HG.out.M.1 (by rw [HG.out.M.2.1]; have := HG.out.rm; omega)).mono ?_
 rintro e w2 ⟨x, rfl, hS⟩
 have S2 := Lib.hid hS
 clear hS hx hf hz
 go_wp2_with fail
 go_ret
 exact ⟨x, rfl, S2.out.closePair1 HK.out⟩
set_option maxRecDepth 100000 in
set_option maxHeartbeats 4000000 in
theorem Grid_front {rr : Nat} (hS : Objs w0 w (pairO p s :: os)) (hg : s.good rr) :
  Calls Tryd.prog 13 #[.pointer (some ⟨p, 0, none⟩)] w fun e w' => ∃ x, e = .returned (.pointer (some ⟨x, 0, none⟩)) ∧ Objs w0 w' (.grid x 83 s.cols s.U :: pairO p s :: os) := by
 obtain ⟨g, m, kv, ko, hK, hO⟩ := hS.openPair
 have HK := Lib.hid hK
 have HG := Lib.hid hg
 clear hS hK hg
 have hcc : (used24 s.mode = 0 ∧ s.U = s.M) ∨ (used24 s.mode = 1 ∧ s.U = s.O) := by
  unfold used24 Pr.U
  by_cases h : s.mode = 0
  ·exact .inl ⟨if_pos h, if_pos h⟩
  ·exact .inr ⟨if_neg h, if_neg h⟩
 rcases hcc with ⟨h2, h3⟩ | ⟨h2, h3⟩
 all_goals
  rw [h2] at hO
  have H2 := Lib.hid h2
  have H3 := Lib.hid h3
  have S := Lib.hid hO
  clear hO h2 h3
  go_enter Tryd.func13, Tryd.ntmps13
  go_wp2_with fail
  refine (pnone_no S.out (k := 0) rfl).mono ?_
  rintro e w1 ⟨rfl, hS⟩
  have S1 := Lib.hid hS
  clear hS S
  go_upto_region 3 with (fail)
 ·refine wp_region_stage (w0 := w0) (os := os) (by kernel_rfl) (by kernel_rfl) (by kernel_rfl) [(0, 9, [9], fun vs => .grid (blkOf (vs 9)) 83 ↑s.cols s.M), (0, 10, [10], fun vs => .grid (blkOf (vs 10)) 83 ↑s.cols s.M)] [[], [], [], [], [1], [], [], [], [1], [0, 2], [0]] [.none, .box p 44 #[.pointer (some ⟨g, 0, none⟩), .pointer (some ⟨m, 0, none⟩), .int .i64 0, .int .i64 s.mode, kv], .grid g 83 ↑s.cols s.M, .grid m 83 ↑s.cols s.O, ko] (fun opn u => match opn with | 0 => u = .pointer (some ⟨p, 0, none⟩) | 1 => u = .pointer (some ⟨p, 0, none⟩) | 2 => u = .pointer (some ⟨p, 0, none⟩) | 3 => u = .pointer (some ⟨p, 2, none⟩) | 4 => u = .int .i64 0 | 5 => u = .pointer (some ⟨p, 0, none⟩) | 6 => u = .pointer (some ⟨p, 0, none⟩) | 7 => u = .pointer (some ⟨p, 0, none⟩) | 8 => u = .pointer (some ⟨g, 0, none⟩) | 9 => ∃ x, u = .pointer (some ⟨x, 0, none⟩) | 10 => ∃ x, u = .pointer (some ⟨x, 0, none⟩) | _ => True) (fun vs => [.grid (blkOf (vs 10)) 83 ↑s.cols s.M, .box p 44 #[.pointer (some ⟨g, 0, none⟩), .pointer (some ⟨m, 0, none⟩), .int .i64 0, .int .i64 s.mode, kv], .grid g 83 ↑s.cols s.M, .grid m 83 ↑s.cols s.O, ko]) (by kernel_rfl) (fun vs => by rfl) S1.out.pad ?_ ?_
  ·apply sc
   ·intro a w' vs σ hS hl hs hk
    have f0 : a.tmps[0]?.getD undef = .pointer (some ⟨p, 0, none⟩) := sof hk
    exact rp (pt p 0) (by simp [execOp, Act.eval, f0, go_sem]) hl hs hS
   apply sc
   ·intro a w' vs σ hS hl hs hk
    have f0 : a.tmps[0]?.getD undef = .pointer (some ⟨p, 0, none⟩) := sof hk
    exact rp (pt p 0) (by simp [execOp, Act.eval, f0, go_sem]) hl hs hS
   apply sc
   ·intro a w' vs σ hS hl hs hk
    have f6 : a.tmps[6]?.getD undef = .pointer (some ⟨p, 0, none⟩) := svf hk 1
    exact rp (pt p 0) (by simp [execOp, Act.eval, f6, go_sem]) hl hs hS
   apply sc
   ·intro a w' vs σ hS hl hs hk
    have f7 : a.tmps[7]?.getD undef = .pointer (some ⟨p, 0, none⟩) := svf hk 2
    exact rp (pt p 2) (by simp [execOp, Act.eval, f7, go_sem]) hl hs hS
   apply sc
   ·intro a w' vs σ hS hl hs hk
    have f8 : a.tmps[8]?.getD undef = .pointer (some ⟨p, 2, none⟩) := svf hk 3
    have hx := (hS.box (sg (hs 1 (by decide)))).cell
    exact rp (.int .i64 0) (by simp [execOp, Act.eval, f8, go_sem, hx]) hl hs hS
   apply sc
   ·intro a w' vs σ hS hl hs hk
    have f5 : a.tmps[5]?.getD undef = .pointer (some ⟨p, 0, none⟩) := svf hk 0
    exact rp (pt p 0) (by simp [execOp, Act.eval, f5, go_sem]) hl hs hS
   apply sc
   ·intro a w' vs σ hS hl hs hk
    have f10 : a.tmps[10]?.getD undef = .pointer (some ⟨p, 0, none⟩) := svf hk 5
    exact rp (pt p 0) (by simp [execOp, Act.eval, f10, go_sem]) hl hs hS
   apply sc
   ·intro a w' vs σ hS hl hs hk
    have f11 : a.tmps[11]?.getD undef = .pointer (some ⟨p, 0, none⟩) := svf hk 6
    have f9 : a.tmps[9]?.getD undef = .int .i64 0 := svf hk 4
    exact rp (pt p 0) (by simp [execOp, Act.eval, f11, f9, go_sem]) hl hs hS
   apply sc
   ·intro a w' vs σ hS hl hs hk
    have f12 : a.tmps[12]?.getD undef = .pointer (some ⟨p, 0, none⟩) := svf hk 7
    have hx := (hS.box (sg (hs 1 (by decide)))).cell
    exact rp (pt g 0) (by simp [execOp, Act.eval, f12, go_sem, hx]) hl hs hS
   apply sc
   ·intro a w' vs σ hS hl hs hk
    have e13 : a.tmps.getD 13 undef = .pointer (some ⟨g, 0, none⟩) := svv hk 8
    have h0 : σ[0]? = some .none := hs 0 (by decide)
    have h1 : σ[2]? = some (.grid g 83 ↑s.cols s.M) := hs 2 (by decide)
    exact ro_call (f := 39) (wanted_none rfl) rfl (by simp only [List.map_toArray, List.map_cons, List.map_nil, Act.eval, e13] <;> rfl) (fun _ _ => by kernel_rfl) ((CopyG hS (sg h1) HG.out.c0 HG.out.cm HG.out.M.1 (by rw [HG.out.M.2.1]; have := HG.out.rm; omega)).mono fun e w2 ⟨x, h1, h2⟩ => ⟨_, h1, sp_set 0 (.grid x 83 ↑s.cols s.M) (by kernel_rfl) (by simp) (by decide) hl hs (by rfl) (h2.place (sg h0)) ⟨x, rfl⟩, trivial⟩)
   apply sc
   ·intro a w' vs σ hS hl hs hk
    have e14 : a.tmps.getD 14 undef = vs 9 := sk_val hk 9 (by kernel_rfl) rfl rfl
    have p14 : (fun u : Value => ∃ x, u = .pointer (some ⟨x, 0, none⟩)) (vs 9) := (hk.1 9 (by kernel_rfl)).1
    obtain ⟨x, q9⟩ := p14
    have e9 := e14.trans q9
    have f9 := gd e9
    have h0 : σ[0]? = some (.grid (blkOf (vs 9)) 83 ↑s.cols s.M) := hs 0 (by decide)
    rw [q9, show blkOf (.pointer (some ⟨x, 0, none⟩)) = x from rfl] at h0
    have hSS : Objs w0 w' ((σ ++ os).set 0 (.grid x 83 ↑s.cols s.M)) := by rw [set_self (sg h0)]; exact hS
    exact rs_run (v' := .pointer (some ⟨x, 0, none⟩)) (w' := w') (wanted_none rfl) (by simp [execOp, Act.eval, e9, f9, go_sem]) (sp_set 0 (.grid x 83 ↑s.cols s.M) (by kernel_rfl) (by simp) (by decide) hl hs (by rfl) hSS ⟨x, rfl⟩)
   exact SSteps.nil
  ·intro vs w' hS hv
   have q0 : vs 0 = _ := hv 0 (by decide)
   have q1 : vs 1 = _ := hv 1 (by decide)
   have q2 : vs 2 = _ := hv 2 (by decide)
   have q3 : vs 3 = _ := hv 3 (by decide)
   have q4 : vs 4 = _ := hv 4 (by decide)
   have q5 : vs 5 = _ := hv 5 (by decide)
   have q6 : vs 6 = _ := hv 6 (by decide)
   have q7 : vs 7 = _ := hv 7 (by decide)
   have q8 : vs 8 = _ := hv 8 (by decide)
   obtain ⟨x, q10⟩ := (show ∃ x, vs 10 = .pointer (some ⟨x, 0, none⟩) from hv 10 (by decide))
   rw [q10, show blkOf (.pointer (some ⟨x, 0, none⟩)) = x from rfl] at hS
   have S2 := Lib.hid hS
   simp only [putL, Act.put, Nat.zero_add, Nat.reduceAdd, List.setIfInBounds_toArray, List.set_cons_succ, List.set_cons_zero, q0, q1, q2, q3, q4, q5, q6, q7, q8]
   clear hS hv q0 q1 q2 q3 q4 q5 q6 q7 q8
   simp only [q10]
   go_wp2_with fail
   go_ret
   rw [H3.out]
   refine ⟨x, rfl, Objs.closePair1 (g := g) (m := m) (kv := kv) (ko := ko) ?_ HK.out⟩
   show Objs w0 w' (_ :: .box p 44 #[.pointer (some ⟨g, 0, none⟩), .pointer (some ⟨m, 0, none⟩), .int .i64 (used24 s.mode), .int .i64 s.mode, kv] :: _)
   rw [H2.out]
   exact S2.out
 ·refine wp_region_stage (w0 := w0) (os := os) (by kernel_rfl) (by kernel_rfl) (by kernel_rfl) [(0, 9, [9], fun vs => .grid (blkOf (vs 9)) 83 ↑s.cols s.O), (0, 10, [10], fun vs => .grid (blkOf (vs 10)) 83 ↑s.cols s.O)] [[], [], [], [], [1], [], [], [], [1], [0, 3], [0]] [.none, .box p 44 #[.pointer (some ⟨g, 0, none⟩), .pointer (some ⟨m, 0, none⟩), .int .i64 1, .int .i64 s.mode, kv], .grid g 83 ↑s.cols s.M, .grid m 83 ↑s.cols s.O, ko] (fun opn u => match opn with | 0 => u = .pointer (some ⟨p, 0, none⟩) | 1 => u = .pointer (some ⟨p, 0, none⟩) | 2 => u = .pointer (some ⟨p, 0, none⟩) | 3 => u = .pointer (some ⟨p, 2, none⟩) | 4 => u = .int .i64 1 | 5 => u = .pointer (some ⟨p, 0, none⟩) | 6 => u = .pointer (some ⟨p, 0, none⟩) | 7 => u = .pointer (some ⟨p, 1, none⟩) | 8 => u = .pointer (some ⟨m, 0, none⟩) | 9 => ∃ x, u = .pointer (some ⟨x, 0, none⟩) | 10 => ∃ x, u = .pointer (some ⟨x, 0, none⟩) | _ => True) (fun vs => [.grid (blkOf (vs 10)) 83 ↑s.cols s.O, .box p 44 #[.pointer (some ⟨g, 0, none⟩), .pointer (some ⟨m, 0, none⟩), .int .i64 1, .int .i64 s.mode, kv], .grid g 83 ↑s.cols s.M, .grid m 83 ↑s.cols s.O, ko]) (by kernel_rfl) (fun vs => by rfl) S1.out.pad ?_ ?_
  ·apply sc
   ·intro a w' vs σ hS hl hs hk
    have f0 : a.tmps[0]?.getD undef = .pointer (some ⟨p, 0, none⟩) := sof hk
    exact rp (pt p 0) (by simp [execOp, Act.eval, f0, go_sem]) hl hs hS
   apply sc
   ·intro a w' vs σ hS hl hs hk
    have f0 : a.tmps[0]?.getD undef = .pointer (some ⟨p, 0, none⟩) := sof hk
    exact rp (pt p 0) (by simp [execOp, Act.eval, f0, go_sem]) hl hs hS
   apply sc
   ·intro a w' vs σ hS hl hs hk
    have f6 : a.tmps[6]?.getD undef = .pointer (some ⟨p, 0, none⟩) := svf hk 1
    exact rp (pt p 0) (by simp [execOp, Act.eval, f6, go_sem]) hl hs hS
   apply sc
   ·intro a w' vs σ hS hl hs hk
    have f7 : a.tmps[7]?.getD undef = .pointer (some ⟨p, 0, none⟩) := svf hk 2
    exact rp (pt p 2) (by simp [execOp, Act.eval, f7, go_sem]) hl hs hS
   apply sc
   ·intro a w' vs σ hS hl hs hk
    have f8 : a.tmps[8]?.getD undef = .pointer (some ⟨p, 2, none⟩) := svf hk 3
    have hx := (hS.box (sg (hs 1 (by decide)))).cell
    exact rp (.int .i64 1) (by simp [execOp, Act.eval, f8, go_sem, hx]) hl hs hS
   apply sc
   ·intro a w' vs σ hS hl hs hk
    have f5 : a.tmps[5]?.getD undef = .pointer (some ⟨p, 0, none⟩) := svf hk 0
    exact rp (pt p 0) (by simp [execOp, Act.eval, f5, go_sem]) hl hs hS
   apply sc
   ·intro a w' vs σ hS hl hs hk
    have f10 : a.tmps[10]?.getD undef = .pointer (some ⟨p, 0, none⟩) := svf hk 5
    exact rp (pt p 0) (by simp [execOp, Act.eval, f10, go_sem]) hl hs hS
   apply sc
   ·intro a w' vs σ hS hl hs hk
    have f11 : a.tmps[11]?.getD undef = .pointer (some ⟨p, 0, none⟩) := svf hk 6
    have f9 : a.tmps[9]?.getD undef = .int .i64 1 := svf hk 4
    exact rp (pt p 1) (by simp [execOp, Act.eval, f11, f9, go_sem]) hl hs hS
   apply sc
   ·intro a w' vs σ hS hl hs hk
    have f12 : a.tmps[12]?.getD undef = .pointer (some ⟨p, 1, none⟩) := svf hk 7
    have hx := (hS.box (sg (hs 1 (by decide)))).cell
    exact rp (pt m 0) (by simp [execOp, Act.eval, f12, go_sem, hx]) hl hs hS
   apply sc
   ·intro a w' vs σ hS hl hs hk
    have e13 : a.tmps.getD 13 undef = .pointer (some ⟨m, 0, none⟩) := svv hk 8
    have h0 : σ[0]? = some .none := hs 0 (by decide)
    have h1 : σ[3]? = some (.grid m 83 ↑s.cols s.O) := hs 3 (by decide)
    exact ro_call (f := 39) (wanted_none rfl) rfl (by simp only [List.map_toArray, List.map_cons, List.map_nil, Act.eval, e13] <;> rfl) (fun _ _ => by kernel_rfl) ((CopyG hS (sg h1) HG.out.c0 HG.out.cm HG.out.O.1 (by rw [HG.out.O.2.1]; have := HG.out.rm; omega)).mono fun e w2 ⟨x, h1, h2⟩ => ⟨_, h1, sp_set 0 (.grid x 83 ↑s.cols s.O) (by kernel_rfl) (by simp) (by decide) hl hs (by rfl) (h2.place (sg h0)) ⟨x, rfl⟩, trivial⟩)
   apply sc
   ·intro a w' vs σ hS hl hs hk
    have e14 : a.tmps.getD 14 undef = vs 9 := sk_val hk 9 (by kernel_rfl) rfl rfl
    have p14 : (fun u : Value => ∃ x, u = .pointer (some ⟨x, 0, none⟩)) (vs 9) := (hk.1 9 (by kernel_rfl)).1
    obtain ⟨x, q9⟩ := p14
    have e9 := e14.trans q9
    have f9 := gd e9
    have h0 : σ[0]? = some (.grid (blkOf (vs 9)) 83 ↑s.cols s.O) := hs 0 (by decide)
    rw [q9, show blkOf (.pointer (some ⟨x, 0, none⟩)) = x from rfl] at h0
    have hSS : Objs w0 w' ((σ ++ os).set 0 (.grid x 83 ↑s.cols s.O)) := by rw [set_self (sg h0)]; exact hS
    exact rs_run (v' := .pointer (some ⟨x, 0, none⟩)) (w' := w') (wanted_none rfl) (by simp [execOp, Act.eval, e9, f9, go_sem]) (sp_set 0 (.grid x 83 ↑s.cols s.O) (by kernel_rfl) (by simp) (by decide) hl hs (by rfl) hSS ⟨x, rfl⟩)
   exact SSteps.nil
  ·intro vs w' hS hv
   have q0 : vs 0 = _ := hv 0 (by decide)
   have q1 : vs 1 = _ := hv 1 (by decide)
   have q2 : vs 2 = _ := hv 2 (by decide)
   have q3 : vs 3 = _ := hv 3 (by decide)
   have q4 : vs 4 = _ := hv 4 (by decide)
   have q5 : vs 5 = _ := hv 5 (by decide)
   have q6 : vs 6 = _ := hv 6 (by decide)
   have q7 : vs 7 = _ := hv 7 (by decide)
   have q8 : vs 8 = _ := hv 8 (by decide)
   obtain ⟨x, q10⟩ := (show ∃ x, vs 10 = .pointer (some ⟨x, 0, none⟩) from hv 10 (by decide))
   rw [q10, show blkOf (.pointer (some ⟨x, 0, none⟩)) = x from rfl] at hS
   have S2 := Lib.hid hS
   simp only [putL, Act.put, Nat.zero_add, Nat.reduceAdd, List.setIfInBounds_toArray, List.set_cons_succ, List.set_cons_zero, q0, q1, q2, q3, q4, q5, q6, q7, q8]
   clear hS hv q0 q1 q2 q3 q4 q5 q6 q7 q8
   simp only [q10]
   go_wp2_with fail
   go_ret
   rw [H3.out]
   refine ⟨x, rfl, Objs.closePair1 (g := g) (m := m) (kv := kv) (ko := ko) ?_ HK.out⟩
   show Objs w0 w' (_ :: .box p 44 #[.pointer (some ⟨g, 0, none⟩), .pointer (some ⟨m, 0, none⟩), .int .i64 (used24 s.mode), .int .i64 s.mode, kv] :: _)
   rw [H2.out]
   exact S2.out
set_option maxRecDepth 100000 in
set_option maxHeartbeats 4000000 in
theorem pairNew_yes (rows cols : Nat) (h1 : 1 ≤ rows) (h2 : rows ≤ 1000) (h3 : 1 ≤ cols) (h4 : cols ≤ 1000) (hS : Objs w0 w os) :
  Calls Tryd.prog 19 #[.int .i64 rows, .int .i64 cols] w fun e w' => ∃ p, e = .returned (.tuple #[.pointer (some ⟨p, 0, none⟩), .int .i64 0]) ∧ Objs w0 w' (pairO p (newP rows cols) :: os) := by
 have S := Lib.hid hS
 clear hS
 go_enter Tryd.func19, Tryd.ntmps19
 go_upto_region 2 with (fail)
 refine at_objsC (S.out.alloc1 (c1 := #[.pointer none, .pointer none, .int .i64 0, .int .i64 0, .pointer none]) (t1 := 44)) (fun W hW => ?_)
 generalize w.heap.size = p at hW ⊢
 have S1 := Lib.hid hW
 clear hW S
 go_wp2_with fail
 go_loopw [12] (fun x wr => (x = .int .i64 0 ∧ Objs w0 wr (.box p 44 #[.pointer none, .pointer none, .int .i64 0, .int .i64 0, .pointer none] :: os)) ∨ (x = .int .i64 1 ∧ ∃ g, Objs w0 wr (.box p 44 #[.pointer (some ⟨g, 0, none⟩), .pointer none, .int .i64 0, .int .i64 0, .pointer none] :: .grid g 83 ↑cols (newL rows cols) :: os)) ∨ (x = .int .i64 2 ∧ ∃ g m, Objs w0 wr (.box p 44 #[.pointer (some ⟨g, 0, none⟩), .pointer (some ⟨m, 0, none⟩), .int .i64 0, .int .i64 0, .pointer none] :: .grid g 83 ↑cols (newL rows cols) :: .grid m 83 ↑cols (newL rows cols) :: os))) (fun x _ => 2 - (intOf x).toNat)
 case atStart => exact .inl ⟨rfl, S1.out⟩
 case round =>
  clear S1
  rcases hrel with ⟨rfl, hS⟩ | ⟨rfl, g, hS⟩ | ⟨rfl, g, m, hS⟩
  ·have S2 := Lib.hid hS
   clear hS
   go_wp2_with fail
   refine (gridNew_yes rows cols h1 h2 h3 h4 _ _ _ S2.out).mono ?_
   rintro e w2 ⟨g, rfl, hS⟩
   have S3 := Lib.hid hS
   clear hS S2
   obtain ⟨hx, hf, hz⟩ := (S3.out.box (k := 1) rfl).facts
   go_wp2_with fail
   go_roundw
   case rel => exact .inr (.inl ⟨by go_num, g, (S3.out.setBox 1 (i := 0) (u := .pointer (some ⟨g, 0, none⟩)) rfl).swap⟩)
   case measure => simp [intOf]
  ·have S2 := Lib.hid hS
   clear hS
   go_wp2_with fail
   refine (gridNew_yes rows cols h1 h2 h3 h4 _ _ _ S2.out).mono ?_
   rintro e w2 ⟨m, rfl, hS⟩
   have S3 := Lib.hid hS
   clear hS S2
   obtain ⟨hx, hf, hz⟩ := (S3.out.box (k := 1) rfl).facts
   go_wp2_with fail
   go_roundw
   case rel => exact .inr (.inr ⟨by go_num, g, m, by have hW := S3.out.setBox 1 (i := 1) (u := .pointer (some ⟨m, 0, none⟩)) rfl; exact (Objs.pick (σ := [_, _, _]) (os := os) hW [some 1, some 2, some 0] (by decide) rfl)⟩)
   case measure => simp [intOf]
  ·have S2 := Lib.hid hS
   clear hS
   go_wp2_with fail
   go_ret2
   refine ⟨p, rfl, Objs.closePair (g := g) (m := m) (kv := .pointer none) (ko := .none) ?_ rfl⟩
   have hW := S2.out.pad
   exact (Objs.pick (σ := [_, _, _, _]) (os := os) hW [some 1, some 2, some 3, some 0] (by decide) rfl)
set_option maxHeartbeats 4000000 in
theorem pairNew_no (rows cols : Int) (h : rows < 1 ∨ 1000 < rows ∨ cols < 1 ∨ 1000 < cols) (hS : Objs w0 w os) :
  Calls Tryd.prog 19 #[.int .i64 rows, .int .i64 cols] w fun e w' => e = .returned (.tuple #[.pointer none, .int .i64 2]) ∧ Objs w0 w' os := by
 have S := Lib.hid hS
 have H := Lib.hid h
 clear hS h
 go_enter Tryd.func19, Tryd.ntmps19
 go_upto_region 2 with (fail)
 refine at_objsC (S.out.alloc1 (c1 := #[.pointer none, .pointer none, .int .i64 0, .int .i64 0, .pointer none]) (t1 := 44)) (fun W hW => ?_)
 generalize w.heap.size = p at hW ⊢
 have S1 := Lib.hid hW
 clear hW S
 go_wp2_with fail
 go_loopw [12] (fun x wr => x = .int .i64 0 ∧ Objs w0 wr (.box p 44 #[.pointer none, .pointer none, .int .i64 0, .int .i64 0, .pointer none] :: os)) (fun x _ => 2 - (intOf x).toNat)
 case atStart => exact ⟨rfl, S1.out⟩
 case round =>
  clear S1
  obtain ⟨rfl, hS⟩ := hrel
  have S2 := Lib.hid hS
  clear hS
  go_wp2_with fail
  refine (gridNew_no rows cols H.out _).mono ?_
  rintro e w2 ⟨rfl, rfl⟩
  go_wp2_with fail
  go_ret2
  exact ⟨rfl, S2.out.tail⟩
set_option maxHeartbeats 4000000 in
theorem refNew_yes (rows cols : Nat) (h2 : rows ≤ 1000) (h4 : cols ≤ 1000) (hS : Objs w0 w os) :
  Calls Tryd.prog 31 #[.int .i64 rows, .int .i64 cols] w fun e w' => ∃ p, e = .returned (.pointer (some ⟨p, 0, none⟩)) ∧ Objs w0 w' (refO p (newP rows cols) :: os) := by
 have S := Lib.hid hS
 clear hS
 go_enter Tryd.func31, Tryd.ntmps31
 go_wp2_with fail
 refine (r14New_any rows cols h2 h4 _ _ _ S.out).mono ?_
 rintro e w1 ⟨m, rfl, hS⟩
 have S1 := Lib.hid hS
 clear hS
 go_wp2_with fail
 refine (r14New_any rows cols h2 h4 _ _ _ S1.out).mono ?_
 rintro e w2 ⟨o, rfl, hS⟩
 have S2 := Lib.hid hS
 clear hS
 go_wp2_with fail
 refine at_objsP (S2.out.alloc1 (c1 := rpv m o 0 saved0 false) (t1 := 103)) (fun W hW => ?_)
 go_ret
 exact ⟨_, rfl, Objs.closeRef (m := m) (o := o) (Objs.pick (σ := [_, _, _]) (os := os) hW [some 0, some 2, some 1] (by decide) rfl)⟩
end
end Go.Proofs.YtdndoikgnohkkaaDoor

namespace Go.Proofs.YtdndoikgnohkkaaDoor
open Go.RowKit

def putR24 (row col : Int) (x : Cell) (cols : Nat) (L : List Ln) : List Ln := if putE row col x cols L.length = 0 then rowMod row.toNat (putC col.toNat x) L else L
section
variable {w0 w : World} {os : List Ob} {p : Nat} {s : Pr}
theorem front_bs {P : Program} {f : FuncId} {args : Array Value} {o o' : Ob} {r : Value} {bs : List Ob} (hS : Objs w0 w (bs ++ o :: os)) (hc : ∀ os1, Objs w0 w (o :: os1) → Calls P f args w fun e w' => e = .returned r ∧ Objs w0 w' (o' :: os1)) :
  Calls P f args w fun e w' => e = .returned r ∧ Objs w0 w' (bs ++ o' :: os) := by
 have h := front_call hS (k := bs.length) (by simp) hc
 simpa using h
theorem mid_get (o b : Ob) (zs os : List Ob) : (o :: (zs ++ b :: os))[zs.length + 1]? = some b := by simp
theorem put24_any {row col : Int} {p cols : Nat} {L : List Ln} (x : Cell) (hT : Tabs w0) (hS : Objs w0 w (.grid p 83 cols L :: os)) (hc : 0 < cols) (hcm : cols ≤ 1000) (hR : Rect cols L) :
  Calls Tryd.prog 44 #[.pointer (some ⟨p, 0, none⟩), .int .i64 row, .int .i64 col, .agg (cv x)] w fun e w' => e = .returned (.int .i64 (putE row col x cols L.length)) ∧ Objs w0 w' (.grid p 83 cols (putR24 row col x cols L) :: os) := by
 unfold putR24
 by_cases h : putE row col x cols L.length = 0
 ·rw [if_pos h, h]
  obtain ⟨i, j, rfl, rfl, hi, hj, h1, h2, h3⟩ := putE_yes h
  exact PutG x hT hS (k := 0) rfl hcm hR hi h1 h2 h3
 ·rw [if_neg h]
  exact PutN x hT hS (k := 0) rfl hc hcm h
theorem putR24_k24 {row col : Int} {x : Cell} {cols rr : Nat} {L : List Ln} (h : K24 cols rr L) : K24 cols rr (putR24 row col x cols L) := by
 unfold putR24
 split
 ·rename_i he
  obtain ⟨i, j, rfl, rfl, hi, hj, h1, h2, h3⟩ := putE_yes he
  refine ⟨h.1.rowMod _ (fun cs hcs => by rw [putC_length]; exact hcs), by rw [rowMod_length]; exact h.2.1, ?_⟩
  have := act14N_all (a := ⟨0, i, j, 0, 0, x, none, 0, [], false, pen0⟩) h.1 h.2.2
  unfold act14N at this
  rw [if_pos rfl, if_pos he] at this
  exact this
 ·exact h
theorem Pr.good.setU {rr : Nat} {L : List Ln} (h : s.good rr) (hL : K24 s.cols rr L) : (s.setU L).good rr := by
 unfold Pr.setU
 split
 ·exact ⟨h.c0, h.cm, h.r0, h.rm, hL, h.O⟩
 ·exact ⟨h.c0, h.cm, h.r0, h.rm, h.M, hL⟩
set_option maxHeartbeats 1000000 in
theorem putsFn {row col : Int} {g b cols : Nat} {L : List Ln} {zs : List Ob} (x : Cell) (hT : Tabs w0) (hS : Objs w0 w (.grid g 83 cols L :: (zs ++ .box b 63 (pw row col x) :: os))) (hc : 0 < cols) (hcm : cols ≤ 1000) (hR : Rect cols L) :
  Calls Tryd.prog 43 #[.pointer (some ⟨g, 0, none⟩), .pointer (some ⟨b, 0, none⟩)] w fun e w' => e = .returned (.int .i64 (putE row col x cols L.length)) ∧ Objs w0 w' (.grid g 83 cols (putR24 row col x cols L) :: (zs ++ .box b 63 (pw row col x) :: os)) := by
 have S := Lib.hid hS
 have HT := Lib.hid hT
 have HR := Lib.hid hR
 clear hS hT hR
 obtain ⟨hx, hf, hz, hr, hc2⟩ := (S.out.box (mid_get _ _ zs os)).put24
 go_enter Tryd.func43, Tryd.ntmps43
 go_wp2_with fail
 refine (put24_any x HT.out S.out hc hcm HR.out).mono ?_
 rintro e w1 ⟨rfl, hS⟩
 have S1 := Lib.hid hS
 clear hS
 go_wp2_with fail
 go_ret
 exact ⟨rfl, S1.out⟩
set_option maxHeartbeats 1000000 in
theorem puts_front {row col : Int} {rr : Nat} (x : Cell) (hT : Tabs w0) (hS : Objs w0 w (pairO p s :: os)) (hg : s.good rr) :
  Calls Tryd.prog 22 #[.pointer (some ⟨p, 0, none⟩), .agg (pw row col x)] w fun e w' => e = .returned (.int .i64 (putE row col x s.cols rr)) ∧ Objs w0 w' (pairO p (s.setU (putR24 row col x s.cols s.U)) :: os) := by
 have S := Lib.hid hS
 have HT := Lib.hid hT
 have HG := Lib.hid hg
 clear hS hT hg
 go_enter Tryd.func22, Tryd.ntmps22
 go_upto_region 1 with (fail)
 refine at_objsC (S.out.alloc1 (c1 := pw row col x) (t1 := 63)) (fun W hW => ?_)
 generalize w.heap.size = b at hW ⊢
 have S1 := Lib.hid hW
 clear hW S
 go_wp2_with fail
 refine (Do_front (f := 43) (first := #[]) (cap := #[.pointer (some ⟨b, 0, none⟩)]) (re := putE row col x s.cols rr) (L2 := putR24 row col x s.cols s.U) (os := .box b 63 (pw row col x) :: os) (fun _ _ => by kernel_rfl) S1.out.swap (fun W g zs h => ?_)).mono ?_
 ·have := putsFn x HT.out h HG.out.c0 HG.out.cm HG.out.U.1
  rw [HG.out.U.2.1] at this
  exact this
 rintro e w1 ⟨rfl, hS⟩
 have S2 := Lib.hid hS
 clear hS
 go_wp2_with fail
 go_ret
 exact ⟨rfl, S2.out.swap.tail⟩
set_option maxHeartbeats 1000000 in
theorem leaves_true {n er : Int} {gp : Value} {q : Pen} {a : Saved} {b1 : Bool} {os2 : List Ob} (hS : Objs w0 w os)
  (hcon : ∀ (bs : List Ob) (W : World), Objs w0 W (bs ++ os) → Calls Tryd.prog 23 #[gp, .int .i64 n, .agg (pv q)] W fun e w' => e = .returned (.tuple #[.agg (sv a), .bool b1, .int .i64 er]) ∧ Objs w0 w' (bs ++ os2)) :
  Calls Tryd.prog 10 #[gp, .int .i64 n, .agg (pv q), .agg (sv a), .bool b1, .int .i64 er] w fun e w' => e = .returned (.bool true) ∧ Objs w0 w' os2 := by
 have S0 := Lib.hid hS
 have HC := Lib.hid hcon
 clear hS hcon
 go_enter Tryd.func10, Tryd.ntmps10
 go_upto_region 1 with (fail)
 refine at_objsC (S0.out.alloc2 (c1 := pv q) (t1 := 29) (c2 := sv a) (t2 := 35)) (fun W hW => ?_)
 generalize w.heap.size + 1 = b9 at hW ⊢
 generalize w.heap.size = b8 at hW ⊢
 have S1 := Lib.hid hW
 clear hW S0
 obtain ⟨hx8, hf8, hz8⟩ := (S1.out.box (k := 1) rfl).facts
 have hp8 := (S1.out.box (k := 1) rfl).penAt
 go_wp2_with fail
 refine (HC.out [_, _] _ S1.out).mono ?_
 rintro e w1 ⟨rfl, hS⟩
 have S2 := Lib.hid (show Objs w0 w1 (.box b9 35 (sv a) :: .box b8 29 (pv q) :: os2) from hS)
 clear hS S1 hx8 hf8 hz8 hp8
 go_upto_region 2 with (fail)
 refine at_objsC (S2.out.alloc1 (c1 := sv a) (t1 := 35)) (fun W2 hW => ?_)
 generalize w1.heap.size = b13 at hW ⊢
 have S3 := Lib.hid hW
 clear hW S2
 obtain ⟨hx13, hf13, hz13, hr13, hp13⟩ := (S3.out.box (k := 0) rfl).saved
 obtain ⟨hx9, hf9, hz9, hr9, hp9⟩ := (S3.out.box (k := 1) rfl).saved
 go_wp2_with fail
 go_ret
 exact ⟨rfl, S3.out.tail.tail.tail⟩
set_option maxHeartbeats 1000000 in
theorem shows_true {i j cols k g : Nat} {L : List Ln} {l : Ln} {x : Cell} (hS : Objs w0 w os) (hk : os[k]? = some (.grid g 83 cols L)) (hc : 0 < cols) (hj : j < cols) (hl : L[i]? = some l) (hx : l.1[j]? = some x) :
  Calls Tryd.prog 42 #[.pointer (some ⟨g, 0, none⟩), .int .i64 i, .int .i64 j, .agg (cv x)] w fun e w' => e = .returned (.bool true) ∧ Objs w0 w' os := by
 have S0 := Lib.hid hS
 have HK := Lib.hid hk
 have HL := Lib.hid hl
 have HX := Lib.hid hx
 clear hS hk hl hx
 go_enter Tryd.func42, Tryd.ntmps42
 go_upto_region 1 with (fail)
 refine at_objsC (S0.out.alloc1 (c1 := cv x) (t1 := 61)) (fun W hW => ?_)
 generalize w.heap.size = b7 at hW ⊢
 have S1 := Lib.hid hW
 clear hW S0
 go_wp2_with fail
 refine (Cell_yes S1.out (k := k + 1) HK.out hc hj HL.out HX.out).mono ?_
 rintro e w1 ⟨rfl, hS⟩
 have S2 := Lib.hid hS
 clear hS S1
 go_upto_region 2 with (fail)
 refine at_objsC (S2.out.alloc1 (c1 := cv x) (t1 := 61)) (fun W2 hW => ?_)
 generalize w1.heap.size = b9 at hW ⊢
 have S3 := Lib.hid hW
 clear hW S2
 obtain ⟨hx9, hf9, hz9, hc9, hp9⟩ := (S3.out.box (k := 0) rfl).box
 obtain ⟨hx7, hf7, hz7, hc7, hp7⟩ := (S3.out.box (k := 1) rfl).box
 go_wp2_with fail
 go_ret
 exact ⟨rfl, S3.out.tail.tail⟩
end
end Go.Proofs.YtdndoikgnohkkaaDoor

namespace Go.Proofs.YtdndoikgnohkkaaDoor
open Go.RowKit

section
variable {w0 w : World} {os : List Ob} {p x : Nat} {s : Pr}
theorem Main_at {k rr : Nat} (hS : Objs w0 w os) (hk : os[k]? = some (pairO p s)) (hg : s.good rr) :
  Calls Tryd.prog 14 #[.pointer (some ⟨p, 0, none⟩)] w fun e w' => ∃ x, e = .returned (.pointer (some ⟨x, 0, none⟩)) ∧ Objs w0 w' (.grid x 83 s.cols s.M :: os) :=
 (Main_front (hS.lift hk) hg).mono fun e w' ⟨x, h1, h2⟩ => ⟨x, h1, by have := Objs.lowerNew hk h2; rwa [set_self hk] at this⟩
theorem Grid_at {k rr : Nat} (hS : Objs w0 w os) (hk : os[k]? = some (pairO p s)) (hg : s.good rr) :
  Calls Tryd.prog 13 #[.pointer (some ⟨p, 0, none⟩)] w fun e w' => ∃ x, e = .returned (.pointer (some ⟨x, 0, none⟩)) ∧ Objs w0 w' (.grid x 83 s.cols s.U :: os) :=
 (Grid_front (hS.lift hk) hg).mono fun e w' ⟨x, h1, h2⟩ => ⟨x, h1, by have := Objs.lowerNew hk h2; rwa [set_self hk] at this⟩
theorem alike_close {mr ro cm co : Nat} {Am Ao : Option Addr} (h1 : Objs w0 w (pairO p s :: .box x 103 (rpv mr ro s.mode (s.kept.getD saved0) s.kept.isSome) :: .box mr 106 #[.int .i64 ↑s.cols, .slice Am s.M.length cm] :: .box ro 106 #[.int .i64 ↑s.cols, .slice Ao s.O.length co] :: .lines (.slice Am s.M.length cm) s.M :: .lines (.slice Ao s.O.length co) s.O :: os)) :
  Objs w0 w (pairO p s :: .box x 103 (rpv mr ro s.mode (s.kept.getD saved0) s.kept.isSome) :: .grid mr 106 ↑s.cols s.M :: .grid ro 106 ↑s.cols s.O :: os) := by
 have h2 := (show Objs w0 w (.lines (.slice Am s.M.length cm) s.M :: .lines (.slice Ao s.O.length co) s.O :: pairO p s :: .box x 103 (rpv mr ro s.mode (s.kept.getD saved0) s.kept.isSome) :: .box mr 106 #[.int .i64 ↑s.cols, .slice Am s.M.length cm] :: .box ro 106 #[.int .i64 ↑s.cols, .slice Ao s.O.length co] :: os) from (Objs.pick (σ := [_, _, _, _, _, _]) (os := os) h1 [some 4, some 5, some 0, some 1, some 2, some 3] (by decide) rfl))
 have h3 := h2.closeGrid (k := 3) rfl
 exact Objs.closeGrid (k := 3) (show Objs w0 w (.lines (.slice Ao s.O.length co) s.O :: _) from h3) rfl
set_option maxRecDepth 100000 in
set_option maxHeartbeats 8000000 in
theorem l24alike_any {rr : Nat} (hT : Tabs w0) (hS : Objs w0 w (pairO p s :: refO x s :: os)) (hg : s.good rr) :
  Calls Tryd.prog 30 #[.pointer (some ⟨p, 0, none⟩), .pointer (some ⟨x, 0, none⟩)] w fun e w' => e = .returned (.bool true) ∧ Objs w0 w' (pairO p s :: refO x s :: os) := by
 obtain ⟨mr, ro, hO⟩ := hS.swap.openRef
 have S1 := Lib.hid (show Objs w0 w (pairO p s :: .box x 103 (rpv mr ro s.mode (s.kept.getD saved0) s.kept.isSome) :: .grid mr 106 ↑s.cols s.M :: .grid ro 106 ↑s.cols s.O :: os) from (Objs.pick (σ := [_, _, _, _]) (os := os) hO [some 3, some 0, some 1, some 2] (by decide) rfl))
 have HT := Lib.hid hT
 have HG := Lib.hid hg
 clear hS hO hT hg
 obtain ⟨bb, hd, hb⟩ : ∃ bb, decide (¬ s.mode = 0) = bb ∧ (s.mode != 0) = bb := ⟨_, rfl, by by_cases h : s.mode = 0 <;> simp [h]⟩
 have HD := Lib.hid hd
 have HB := Lib.hid hb
 clear hd hb
 go_enter Tryd.func30, Tryd.ntmps30
 go_upto_region 1 with (fail)
 refine wp_region_stage (w0 := w0) (os := .grid mr 106 ↑s.cols s.M :: .grid ro 106 ↑s.cols s.O :: os) (by kernel_rfl) (by kernel_rfl) (by kernel_rfl) [] [[], [], [], [], [0], [], [], [], [1], [], [], [], [], [0], [], [], [], [1], [], [], []] [pairO p s, .box x 103 (rpv mr ro s.mode (s.kept.getD saved0) s.kept.isSome)] (fun opn u => match opn with | 0 => u = .pointer (some ⟨p, 0, none⟩) | 1 => u = .bool false | 2 => u = .bool false | 3 => u = .pointer (some ⟨p, 0, none⟩) | 4 => u = .int .i64 s.mode | 5 => u = .pointer (some ⟨x, 0, none⟩) | 6 => u = .pointer (some ⟨x, 0, none⟩) | 7 => u = .pointer (some ⟨x, 2, none⟩) | 8 => u = .int .i64 s.mode | 9 => u = .bool false | 10 => u = .bool false | 11 => u = .bool false | 12 => u = .pointer (some ⟨p, 0, none⟩) | 13 => u = .bool bb | 14 => u = .pointer (some ⟨x, 0, none⟩) | 15 => u = .pointer (some ⟨x, 0, none⟩) | 16 => u = .pointer (some ⟨x, 2, none⟩) | 17 => u = .int .i64 s.mode | 18 => u = .bool bb | 19 => u = .bool false | 20 => u = .bool false | _ => True) (fun vs => [pairO p s, .box x 103 (rpv mr ro s.mode (s.kept.getD saved0) s.kept.isSome)]) (by kernel_rfl) (fun vs => by rfl) S1.out ?_ ?_
 ·apply sc
  ·intro a w' vs σ hS hl hs hk
   have f0 : a.tmps[0]?.getD undef = .pointer (some ⟨p, 0, none⟩) := sof hk
   exact rp (pt p 0) (by simp [execOp, Act.eval, f0, go_sem]) hl hs hS
  apply sc
  ·intro a w' vs σ hS hl hs hk
   have f8 : a.tmps[8]?.getD undef = .pointer (some ⟨p, 0, none⟩) := svf hk 0
   exact rp (.bool false) (by simp [execOp, Act.eval, f8, go_sem]) hl hs hS
  apply sc
  ·intro a w' vs σ hS hl hs hk
   have f9 : a.tmps[9]?.getD undef = .bool false := svf hk 1
   exact rp (.bool false) (by simp [execOp, Act.eval, f9, go_sem]) hl hs hS
  apply sc
  ·intro a w' vs σ hS hl hs hk
   have f0 : a.tmps[0]?.getD undef = .pointer (some ⟨p, 0, none⟩) := sof hk
   exact rq (pt p 0) (wanted_yes rfl rfl rfl (svv hk 2)) (by simp [execOp, Act.eval, f0, go_sem]) hl hs hS
  apply sc
  ·intro a w' vs σ hS hl hs hk
   have e11 : a.tmps.getD 11 undef = .pointer (some ⟨p, 0, none⟩) := svv hk 3
   exact ro_call (f := 12) (wanted_yes rfl rfl rfl (svv hk 2)) rfl (by simp only [List.map_toArray, List.map_cons, List.map_nil, Act.eval, e11] <;> rfl) (fun _ _ => by kernel_rfl) ((Mode_any hS (sg (hs 0 (by decide)))).mono fun e w2 ⟨h1, h2⟩ => ⟨_, h1, sp_same (by kernel_rfl) hl hs h2 rfl, trivial⟩)
  apply sc
  ·intro a w' vs σ hS hl hs hk
   have f1 : a.tmps[1]?.getD undef = .pointer (some ⟨x, 0, none⟩) := sof hk
   exact rq (pt x 0) (wanted_yes rfl rfl rfl (svv hk 2)) (by simp [execOp, Act.eval, f1, go_sem]) hl hs hS
  apply sc
  ·intro a w' vs σ hS hl hs hk
   have f13 : a.tmps[13]?.getD undef = .pointer (some ⟨x, 0, none⟩) := svf hk 5
   exact rq (pt x 0) (wanted_yes rfl rfl rfl (svv hk 2)) (by simp [execOp, Act.eval, f13, go_sem]) hl hs hS
  apply sc
  ·intro a w' vs σ hS hl hs hk
   have f14 : a.tmps[14]?.getD undef = .pointer (some ⟨x, 0, none⟩) := svf hk 6
   exact rq (pt x 2) (wanted_yes rfl rfl rfl (svv hk 2)) (by simp [execOp, Act.eval, f14, go_sem]) hl hs hS
  apply sc
  ·intro a w' vs σ hS hl hs hk
   have f15 : a.tmps[15]?.getD undef = .pointer (some ⟨x, 2, none⟩) := svf hk 7
   have hx := (hS.box (sg (hs 1 (by decide)))).rpair.1
   exact rq (.int .i64 s.mode) (wanted_yes rfl rfl rfl (svv hk 2)) (by simp [execOp, Act.eval, f15, go_sem, hx]) hl hs hS
  apply sc
  ·intro a w' vs σ hS hl hs hk
   have f12 : a.tmps[12]?.getD undef = .int .i64 s.mode := svf hk 4
   have f16 : a.tmps[16]?.getD undef = .int .i64 s.mode := svf hk 8
   exact rq (.bool false) (wanted_yes rfl rfl rfl (svv hk 2)) (by simp [execOp, Act.eval, f12, f16, go_sem]) hl hs hS
  apply sc
  ·intro a w' vs σ hS hl hs hk
   have f10 : a.tmps[10]?.getD undef = .bool false := svf hk 2
   have f17 : a.tmps[17]?.getD undef = .bool false := svf hk 9
   exact rp (.bool false) (by simp [execOp, Act.eval, f10, f17, go_sem]) hl hs hS
  apply sc
  ·intro a w' vs σ hS hl hs hk
   have f18 : a.tmps[18]?.getD undef = .bool false := svf hk 10
   exact rp (.bool false) (by simp [execOp, Act.eval, f18, go_sem]) hl hs hS
  apply sc
  ·intro a w' vs σ hS hl hs hk
   have f0 : a.tmps[0]?.getD undef = .pointer (some ⟨p, 0, none⟩) := sof hk
   exact rq (pt p 0) (wanted_yes rfl rfl rfl (svv hk 11)) (by simp [execOp, Act.eval, f0, go_sem]) hl hs hS
  apply sc
  ·intro a w' vs σ hS hl hs hk
   have e20 : a.tmps.getD 20 undef = .pointer (some ⟨p, 0, none⟩) := svv hk 12
   have hcon := Alternate_any hS (sg (hs 0 (by decide)))
   rw [HD.out] at hcon
   exact ro_call (f := 11) (wanted_yes rfl rfl rfl (svv hk 11)) rfl (by simp only [List.map_toArray, List.map_cons, List.map_nil, Act.eval, e20] <;> rfl) (fun _ _ => by kernel_rfl) ((hcon).mono fun e w2 ⟨h1, h2⟩ => ⟨_, h1, sp_same (by kernel_rfl) hl hs h2 rfl, trivial⟩)
  apply sc
  ·intro a w' vs σ hS hl hs hk
   have f1 : a.tmps[1]?.getD undef = .pointer (some ⟨x, 0, none⟩) := sof hk
   exact rq (pt x 0) (wanted_yes rfl rfl rfl (svv hk 11)) (by simp [execOp, Act.eval, f1, go_sem]) hl hs hS
  apply sc
  ·intro a w' vs σ hS hl hs hk
   have f22 : a.tmps[22]?.getD undef = .pointer (some ⟨x, 0, none⟩) := svf hk 14
   exact rq (pt x 0) (wanted_yes rfl rfl rfl (svv hk 11)) (by simp [execOp, Act.eval, f22, go_sem]) hl hs hS
  apply sc
  ·intro a w' vs σ hS hl hs hk
   have f23 : a.tmps[23]?.getD undef = .pointer (some ⟨x, 0, none⟩) := svf hk 15
   exact rq (pt x 2) (wanted_yes rfl rfl rfl (svv hk 11)) (by simp [execOp, Act.eval, f23, go_sem]) hl hs hS
  apply sc
  ·intro a w' vs σ hS hl hs hk
   have f24 : a.tmps[24]?.getD undef = .pointer (some ⟨x, 2, none⟩) := svf hk 16
   have hx := (hS.box (sg (hs 1 (by decide)))).rpair.1
   exact rq (.int .i64 s.mode) (wanted_yes rfl rfl rfl (svv hk 11)) (by simp [execOp, Act.eval, f24, go_sem, hx]) hl hs hS
  apply sc
  ·intro a w' vs σ hS hl hs hk
   have f25 : a.tmps[25]?.getD undef = .int .i64 s.mode := svf hk 17
   exact rq (.bool bb) (wanted_yes rfl rfl rfl (svv hk 11)) (by simp [execOp, Act.eval, f25, go_sem, HB.out]) hl hs hS
  apply sc
  ·intro a w' vs σ hS hl hs hk
   have f21 : a.tmps[21]?.getD undef = .bool bb := svf hk 13
   have f26 : a.tmps[26]?.getD undef = .bool bb := svf hk 18
   exact rq (.bool false) (wanted_yes rfl rfl rfl (svv hk 11)) (by simp [execOp, Act.eval, f21, f26, go_sem]) hl hs hS
  apply sc
  ·intro a w' vs σ hS hl hs hk
   have f19 : a.tmps[19]?.getD undef = .bool false := svf hk 11
   have f27 : a.tmps[27]?.getD undef = .bool false := svf hk 19
   exact rp (.bool false) (by simp [execOp, Act.eval, f19, f27, go_sem]) hl hs hS
  exact SSteps.nil
 ·intro vs w' hS hv
  have q0 : vs 0 = _ := hv 0 (by decide)
  have q1 : vs 1 = _ := hv 1 (by decide)
  have q2 : vs 2 = _ := hv 2 (by decide)
  have q3 : vs 3 = _ := hv 3 (by decide)
  have q4 : vs 4 = _ := hv 4 (by decide)
  have q5 : vs 5 = _ := hv 5 (by decide)
  have q6 : vs 6 = _ := hv 6 (by decide)
  have q7 : vs 7 = _ := hv 7 (by decide)
  have q8 : vs 8 = _ := hv 8 (by decide)
  have q9 : vs 9 = _ := hv 9 (by decide)
  have q10 : vs 10 = _ := hv 10 (by decide)
  have q11 : vs 11 = _ := hv 11 (by decide)
  have q12 : vs 12 = _ := hv 12 (by decide)
  have q13 : vs 13 = _ := hv 13 (by decide)
  have q14 : vs 14 = _ := hv 14 (by decide)
  have q15 : vs 15 = _ := hv 15 (by decide)
  have q16 : vs 16 = _ := hv 16 (by decide)
  have q17 : vs 17 = _ := hv 17 (by decide)
  have q18 : vs 18 = _ := hv 18 (by decide)
  have q19 : vs 19 = _ := hv 19 (by decide)
  have q20 : vs 20 = _ := hv 20 (by decide)
  have S2 := Lib.hid hS
  simp only [putL, Act.put, Nat.zero_add, Nat.reduceAdd, List.setIfInBounds_toArray, List.set_cons_succ, List.set_cons_zero, q0, q1, q2, q3, q4, q5, q6, q7, q8, q9, q10, q11, q12, q13, q14, q15, q16, q17, q18, q19, q20]
  clear hS hv q0 q1 q2 q3 q4 q5 q6 q7 q8 q9 q10 q11 q12 q13 q14 q15 q16 q17 q18 q19 q20
  have S1_ := S2
  clear S2 S1
  go_wp2_with fail
  go_loopw [5] (fun v wr => ∃ n : Nat, n ≤ 2 ∧ v = .int .i64 n ∧ Objs w0 wr (pairO p s :: .box x 103 (rpv mr ro s.mode (s.kept.getD saved0) s.kept.isSome) :: .grid mr 106 ↑s.cols s.M :: .grid ro 106 ↑s.cols s.O :: os)) (fun v _ => 2 - (intOf v).toNat)
  case atStart => exact ⟨0, by omega, rfl, S1_.out⟩
  case round =>
   clear S1_
   obtain ⟨n, hn, rfl, hS⟩ := hrel
   have S1 := Lib.hid hS
   clear hS
   by_cases hlt : n < 2
   ·go_wp2_with fail
    refine (Grid_at S1.out (k := 0) rfl HG.out).mono ?_
    rintro e w1 ⟨gu, rfl, hS⟩
    have S2 := Lib.hid hS
    clear hS S1
    go_wp2_with fail
    refine (Main_at S2.out (k := 1) rfl HG.out).mono ?_
    rintro e w2 ⟨gm, rfl, hS⟩
    obtain ⟨vm, hS1⟩ := hS.openGrid (k := 4) rfl
    obtain ⟨vo, hS2⟩ := hS1.openGrid (k := 6) rfl
    obtain ⟨Ao, co, rfl, -, -⟩ := hS2.linesRd (k := 0) rfl
    obtain ⟨Am, cm, rfl, -, -⟩ := hS2.linesRd (k := 1) rfl
    have SX := Lib.hid (show Objs w0 w2 (.grid gm 83 ↑s.cols s.M :: .grid gu 83 ↑s.cols s.U :: pairO p s :: .box x 103 (rpv mr ro s.mode (s.kept.getD saved0) s.kept.isSome) :: .box mr 106 #[.int .i64 ↑s.cols, .slice Am s.M.length cm] :: .box ro 106 #[.int .i64 ↑s.cols, .slice Ao s.O.length co] :: .lines (.slice Am s.M.length cm) s.M :: .lines (.slice Ao s.O.length co) s.O :: os) from (Objs.pick (σ := [_, _, _, _, _, _, _, _]) (os := os) hS2 [some 2, some 3, some 4, some 5, some 6, some 7, some 1, some 0] (by decide) rfl))
    clear hS hS1 hS2 S2
    by_cases hm0 : s.mode = 0
    ·have HM0 := Lib.hid hm0
     have S3 := Lib.hid (by have h := SX.out; rw [show s.U = s.M from if_pos hm0] at h; exact h)
     have HU := HG.out.M
     have HU := Lib.hid HU
     clear hm0 SX
     go_upto_region 7 with (fail)
     refine wp_region_stage (w0 := w0) (os := os) (by kernel_rfl) (by kernel_rfl) (by kernel_rfl) [(0, 8, [8], fun vs => .lines (vs 8) s.M), (1, 19, [19], fun vs => .lines (vs 19) s.M)] [[], [], [], [], [], [], [], [], [0, 3], [], [5], [], [], [6], [0, 8], [], [], [], [], [1, 2], [], [], [], [5], [], [], [6], [1, 8], [], [], [], [], [3], [], [], [], [5], [], [], [6], [], [], [], [], [2], [], [], [], [5], [], [], [6], [], []] [.none, .none, .grid gm 83 ↑s.cols s.M, .grid gu 83 ↑s.cols s.M, pairO p s, .box x 103 (rpv mr ro s.mode (s.kept.getD saved0) s.kept.isSome), .box mr 106 #[.int .i64 ↑s.cols, .slice Am s.M.length cm], .box ro 106 #[.int .i64 ↑s.cols, .slice Ao s.O.length co], .lines (.slice Am s.M.length cm) s.M, .lines (.slice Ao s.O.length co) s.O] (fun opn u => match opn with | 0 => u = .pointer (some ⟨gu, 0, none⟩) | 1 => u = .bool false | 2 => u = .bool false | 3 => u = .pointer (some ⟨gm, 0, none⟩) | 4 => u = .bool false | 5 => u = .bool false | 6 => u = .bool false | 7 => u = .pointer (some ⟨gu, 0, none⟩) | 8 => ∃ A c, u = .slice A s.M.length c | 9 => u = .pointer (some ⟨x, 0, none⟩) | 10 => u = .pointer (some ⟨mr, 0, none⟩) | 11 => u = .pointer (some ⟨mr, 0, none⟩) | 12 => u = .pointer (some ⟨mr, 1, none⟩) | 13 => u = .slice Am s.M.length cm | 14 => u = .bool true | 15 => u = .bool false | 16 => u = .bool false | 17 => u = .bool false | 18 => u = .pointer (some ⟨gm, 0, none⟩) | 19 => ∃ A c, u = .slice A s.M.length c | 20 => u = .pointer (some ⟨x, 0, none⟩) | 21 => u = .pointer (some ⟨x, 0, none⟩) | 22 => u = .pointer (some ⟨x, 0, none⟩) | 23 => u = .pointer (some ⟨mr, 0, none⟩) | 24 => u = .pointer (some ⟨mr, 0, none⟩) | 25 => u = .pointer (some ⟨mr, 1, none⟩) | 26 => u = .slice Am s.M.length cm | 27 => u = .bool true | 28 => u = .bool false | 29 => u = .bool false | 30 => u = .bool false | 31 => u = .pointer (some ⟨gu, 0, none⟩) | 32 => u = .int .i64 ↑s.cols | 33 => u = .pointer (some ⟨x, 0, none⟩) | 34 => u = .pointer (some ⟨x, 0, none⟩) | 35 => u = .pointer (some ⟨x, 0, none⟩) | 36 => u = .pointer (some ⟨mr, 0, none⟩) | 37 => u = .pointer (some ⟨mr, 0, none⟩) | 38 => u = .pointer (some ⟨mr, 0, none⟩) | 39 => u = .int .i64 ↑s.cols | 40 => u = .bool false | 41 => u = .bool false | 42 => u = .bool false | 43 => u = .pointer (some ⟨gm, 0, none⟩) | 44 => u = .int .i64 ↑s.cols | 45 => u = .pointer (some ⟨x, 0, none⟩) | 46 => u = .pointer (some ⟨x, 0, none⟩) | 47 => u = .pointer (some ⟨x, 0, none⟩) | 48 => u = .pointer (some ⟨mr, 0, none⟩) | 49 => u = .pointer (some ⟨mr, 0, none⟩) | 50 => u = .pointer (some ⟨mr, 0, none⟩) | 51 => u = .int .i64 ↑s.cols | 52 => u = .bool false | 53 => u = .bool false | _ => True) (fun vs => [.lines (vs 8) s.M, .lines (vs 19) s.M, .grid gm 83 ↑s.cols s.M, .grid gu 83 ↑s.cols s.M, pairO p s, .box x 103 (rpv mr ro s.mode (s.kept.getD saved0) s.kept.isSome), .box mr 106 #[.int .i64 ↑s.cols, .slice Am s.M.length cm], .box ro 106 #[.int .i64 ↑s.cols, .slice Ao s.O.length co], .lines (.slice Am s.M.length cm) s.M, .lines (.slice Ao s.O.length co) s.O]) (by kernel_rfl) (fun vs => by rfl) S3.out.pad.pad ?_ ?_
     ·apply sc
      ·intro a w' vs σ hS hl hs hk
       have f6 : a.tmps[6]?.getD undef = .pointer (some ⟨gu, 0, none⟩) := sof hk
       exact rp (pt gu 0) (by simp [execOp, Act.eval, f6, go_sem]) hl hs hS
      apply sc
      ·intro a w' vs σ hS hl hs hk
       have f37 : a.tmps[37]?.getD undef = .pointer (some ⟨gu, 0, none⟩) := svf hk 0
       exact rp (.bool false) (by simp [execOp, Act.eval, f37, go_sem]) hl hs hS
      apply sc
      ·intro a w' vs σ hS hl hs hk
       have f38 : a.tmps[38]?.getD undef = .bool false := svf hk 1
       exact rp (.bool false) (by simp [execOp, Act.eval, f38, go_sem]) hl hs hS
      apply sc
      ·intro a w' vs σ hS hl hs hk
       have f7 : a.tmps[7]?.getD undef = .pointer (some ⟨gm, 0, none⟩) := sof hk
       exact rq (pt gm 0) (wanted_yes rfl rfl rfl (svv hk 2)) (by simp [execOp, Act.eval, f7, go_sem]) hl hs hS
      apply sc
      ·intro a w' vs σ hS hl hs hk
       have f40 : a.tmps[40]?.getD undef = .pointer (some ⟨gm, 0, none⟩) := svf hk 3
       exact rq (.bool false) (wanted_yes rfl rfl rfl (svv hk 2)) (by simp [execOp, Act.eval, f40, go_sem]) hl hs hS
      apply sc
      ·intro a w' vs σ hS hl hs hk
       have f39 : a.tmps[39]?.getD undef = .bool false := svf hk 2
       have f41 : a.tmps[41]?.getD undef = .bool false := svf hk 4
       exact rp (.bool false) (by simp [execOp, Act.eval, f39, f41, go_sem]) hl hs hS
      apply sc
      ·intro a w' vs σ hS hl hs hk
       have f42 : a.tmps[42]?.getD undef = .bool false := svf hk 5
       exact rp (.bool false) (by simp [execOp, Act.eval, f42, go_sem]) hl hs hS
      apply sc
      ·intro a w' vs σ hS hl hs hk
       have f6 : a.tmps[6]?.getD undef = .pointer (some ⟨gu, 0, none⟩) := sof hk
       exact rq (pt gu 0) (wanted_yes rfl rfl rfl (svv hk 6)) (by simp [execOp, Act.eval, f6, go_sem]) hl hs hS
      apply sc
      ·intro a w' vs σ hS hl hs hk
       have e44 : a.tmps.getD 44 undef = .pointer (some ⟨gu, 0, none⟩) := svv hk 7
       have h1 : σ[0]? = some .none := hs 0 (by decide)
       exact ro_call (f := 40) (wanted_yes rfl rfl rfl (svv hk 6)) rfl (by simp only [List.map_toArray, List.map_cons, List.map_nil, Act.eval, e44] <;> rfl) (fun _ _ => by kernel_rfl) ((Lines_any hS (k := 3) (sg (hs 3 (by decide))) HG.out.c0 (HG.out.M.1.mill HG.out.cm) (by rw [HG.out.M.2.1]; have := HG.out.rm; omega)).mono fun e w2 ⟨v9, h3, h2⟩ => ⟨v9, h3, sp_set 0 (.lines v9 s.M) (by kernel_rfl) (by simp) (by decide) hl hs (by rfl) (h2.place (sg h1)) (by obtain ⟨A8, c8, e8, -, -⟩ := h2.linesRd (k := 0) rfl; exact ⟨A8, c8, e8⟩), trivial⟩)
      apply sc
      ·intro a w' vs σ hS hl hs hk
       have f1 : a.tmps[1]?.getD undef = .pointer (some ⟨x, 0, none⟩) := sof hk
       exact rq (pt x 0) (wanted_yes rfl rfl rfl (svv hk 6)) (by simp [execOp, Act.eval, f1, go_sem]) hl hs hS
      apply sc
      ·intro a w' vs σ hS hl hs hk
       have e46 : a.tmps.getD 46 undef = .pointer (some ⟨x, 0, none⟩) := svv hk 9
       have hcon := used_any hS (sg (hs 5 (by decide)))
       rw [if_pos HM0.out] at hcon
       exact ro_call (f := 51) (wanted_yes rfl rfl rfl (svv hk 6)) rfl (by simp only [List.map_toArray, List.map_cons, List.map_nil, Act.eval, e46] <;> rfl) (fun _ _ => by kernel_rfl) ((hcon).mono fun e w2 ⟨h1, h2⟩ => ⟨_, h1, sp_same (by kernel_rfl) hl hs h2 rfl, trivial⟩)
      apply sc
      ·intro a w' vs σ hS hl hs hk
       have f47 : a.tmps[47]?.getD undef = .pointer (some ⟨mr, 0, none⟩) := svf hk 10
       exact rq (pt mr 0) (wanted_yes rfl rfl rfl (svv hk 6)) (by simp [execOp, Act.eval, f47, go_sem]) hl hs hS
      apply sc
      ·intro a w' vs σ hS hl hs hk
       have f48 : a.tmps[48]?.getD undef = .pointer (some ⟨mr, 0, none⟩) := svf hk 11
       exact rq (pt mr 1) (wanted_yes rfl rfl rfl (svv hk 6)) (by simp [execOp, Act.eval, f48, go_sem]) hl hs hS
      apply sc
      ·intro a w' vs σ hS hl hs hk
       have f49 : a.tmps[49]?.getD undef = .pointer (some ⟨mr, 1, none⟩) := svf hk 12
       have hx := (hS.box (sg (hs 6 (by decide)))).cell
       exact rq (.slice Am s.M.length cm) (wanted_yes rfl rfl rfl (svv hk 6)) (by simp [execOp, Act.eval, f49, go_sem, hx]) hl hs hS
      apply sc
      ·intro a w' vs σ hS hl hs hk
       have e45 : a.tmps.getD 45 undef = vs 8 := sk_val hk 8 (by kernel_rfl) rfl rfl
       have p45 : (fun u : Value => ∃ A c, u = .slice A s.M.length c) (vs 8) := (hk.1 8 (by kernel_rfl)).1
       have e50 : a.tmps.getD 50 undef = .slice Am s.M.length cm := svv hk 13
       obtain ⟨A9, c9, q9⟩ := p45
       rw [q9] at e45
       have h0 : σ[0]? = some (.lines (vs 8) s.M) := hs 0 (by decide)
       rw [q9] at h0
       have hcon := r14SameLines_any A9 Am c9 cm s.M s.M w' (hS.linesRd' (sg h0)).2.2 (hS.linesRd' (sg (hs 8 (by decide)))).2.2 (by rw [HG.out.M.2.1]; have := HG.out.rm; omega) (by rw [HG.out.M.2.1]; have := HG.out.rm; omega) (HG.out.M.1.mill HG.out.cm) (HG.out.M.1.mill HG.out.cm)
       rw [show decide (s.M = s.M) = true by simp] at hcon
       exact ro_call (f := 50) (wanted_yes rfl rfl rfl (svv hk 6)) rfl (by simp only [List.map_toArray, List.map_cons, List.map_nil, Act.eval, e45, e50] <;> rfl) (fun _ _ => by kernel_rfl) (hcon.mono fun e w2 ⟨h1, h2⟩ => ⟨_, h1, sp_same (by kernel_rfl) hl hs (hS.bel h2) rfl, trivial⟩)
      apply sc
      ·intro a w' vs σ hS hl hs hk
       have f51 : a.tmps[51]?.getD undef = .bool true := svf hk 14
       exact rq (.bool false) (wanted_yes rfl rfl rfl (svv hk 6)) (by simp [execOp, Act.eval, f51, go_sem]) hl hs hS
      apply sc
      ·intro a w' vs σ hS hl hs hk
       have f43 : a.tmps[43]?.getD undef = .bool false := svf hk 6
       have f52 : a.tmps[52]?.getD undef = .bool false := svf hk 15
       exact rp (.bool false) (by simp [execOp, Act.eval, f43, f52, go_sem]) hl hs hS
      apply sc
      ·intro a w' vs σ hS hl hs hk
       have f53 : a.tmps[53]?.getD undef = .bool false := svf hk 16
       exact rp (.bool false) (by simp [execOp, Act.eval, f53, go_sem]) hl hs hS
      apply sc
      ·intro a w' vs σ hS hl hs hk
       have f7 : a.tmps[7]?.getD undef = .pointer (some ⟨gm, 0, none⟩) := sof hk
       exact rq (pt gm 0) (wanted_yes rfl rfl rfl (svv hk 17)) (by simp [execOp, Act.eval, f7, go_sem]) hl hs hS
      apply sc
      ·intro a w' vs σ hS hl hs hk
       have e55 : a.tmps.getD 55 undef = .pointer (some ⟨gm, 0, none⟩) := svv hk 18
       have h1 : σ[1]? = some .none := hs 1 (by decide)
       exact ro_call (f := 40) (wanted_yes rfl rfl rfl (svv hk 17)) rfl (by simp only [List.map_toArray, List.map_cons, List.map_nil, Act.eval, e55] <;> rfl) (fun _ _ => by kernel_rfl) ((Lines_any hS (k := 2) (sg (hs 2 (by decide))) HG.out.c0 (HG.out.M.1.mill HG.out.cm) (by rw [HG.out.M.2.1]; have := HG.out.rm; omega)).mono fun e w2 ⟨v9, h3, h2⟩ => ⟨v9, h3, sp_set 1 (.lines v9 s.M) (by kernel_rfl) (by simp) (by decide) hl hs (by rfl) (h2.place (sg h1)) (by obtain ⟨A8, c8, e8, -, -⟩ := h2.linesRd (k := 0) rfl; exact ⟨A8, c8, e8⟩), trivial⟩)
      apply sc
      ·intro a w' vs σ hS hl hs hk
       have f1 : a.tmps[1]?.getD undef = .pointer (some ⟨x, 0, none⟩) := sof hk
       exact rq (pt x 0) (wanted_yes rfl rfl rfl (svv hk 17)) (by simp [execOp, Act.eval, f1, go_sem]) hl hs hS
      apply sc
      ·intro a w' vs σ hS hl hs hk
       have f57 : a.tmps[57]?.getD undef = .pointer (some ⟨x, 0, none⟩) := svf hk 20
       exact rq (pt x 0) (wanted_yes rfl rfl rfl (svv hk 17)) (by simp [execOp, Act.eval, f57, go_sem]) hl hs hS
      apply sc
      ·intro a w' vs σ hS hl hs hk
       have f58 : a.tmps[58]?.getD undef = .pointer (some ⟨x, 0, none⟩) := svf hk 21
       exact rq (pt x 0) (wanted_yes rfl rfl rfl (svv hk 17)) (by simp [execOp, Act.eval, f58, go_sem]) hl hs hS
      apply sc
      ·intro a w' vs σ hS hl hs hk
       have f59 : a.tmps[59]?.getD undef = .pointer (some ⟨x, 0, none⟩) := svf hk 22
       have hx := (hS.box (sg (hs 5 (by decide)))).rpair.1
       exact rq (pt mr 0) (wanted_yes rfl rfl rfl (svv hk 17)) (by simp [execOp, Act.eval, f59, go_sem, hx]) hl hs hS
      apply sc
      ·intro a w' vs σ hS hl hs hk
       have f60 : a.tmps[60]?.getD undef = .pointer (some ⟨mr, 0, none⟩) := svf hk 23
       exact rq (pt mr 0) (wanted_yes rfl rfl rfl (svv hk 17)) (by simp [execOp, Act.eval, f60, go_sem]) hl hs hS
      apply sc
      ·intro a w' vs σ hS hl hs hk
       have f61 : a.tmps[61]?.getD undef = .pointer (some ⟨mr, 0, none⟩) := svf hk 24
       exact rq (pt mr 1) (wanted_yes rfl rfl rfl (svv hk 17)) (by simp [execOp, Act.eval, f61, go_sem]) hl hs hS
      apply sc
      ·intro a w' vs σ hS hl hs hk
       have f62 : a.tmps[62]?.getD undef = .pointer (some ⟨mr, 1, none⟩) := svf hk 25
       have hx := (hS.box (sg (hs 6 (by decide)))).cell
       exact rq (.slice Am s.M.length cm) (wanted_yes rfl rfl rfl (svv hk 17)) (by simp [execOp, Act.eval, f62, go_sem, hx]) hl hs hS
      apply sc
      ·intro a w' vs σ hS hl hs hk
       have e56 : a.tmps.getD 56 undef = vs 19 := sk_val hk 19 (by kernel_rfl) rfl rfl
       have p56 : (fun u : Value => ∃ A c, u = .slice A s.M.length c) (vs 19) := (hk.1 19 (by kernel_rfl)).1
       have e63 : a.tmps.getD 63 undef = .slice Am s.M.length cm := svv hk 26
       obtain ⟨A9, c9, q9⟩ := p56
       rw [q9] at e56
       have h0 : σ[1]? = some (.lines (vs 19) s.M) := hs 1 (by decide)
       rw [q9] at h0
       have hcon := r14SameLines_any A9 Am c9 cm s.M s.M w' (hS.linesRd' (sg h0)).2.2 (hS.linesRd' (sg (hs 8 (by decide)))).2.2 (by rw [HG.out.M.2.1]; have := HG.out.rm; omega) (by rw [HG.out.M.2.1]; have := HG.out.rm; omega) (HG.out.M.1.mill HG.out.cm) (HG.out.M.1.mill HG.out.cm)
       rw [show decide (s.M = s.M) = true by simp] at hcon
       exact ro_call (f := 50) (wanted_yes rfl rfl rfl (svv hk 17)) rfl (by simp only [List.map_toArray, List.map_cons, List.map_nil, Act.eval, e56, e63] <;> rfl) (fun _ _ => by kernel_rfl) (hcon.mono fun e w2 ⟨h1, h2⟩ => ⟨_, h1, sp_same (by kernel_rfl) hl hs (hS.bel h2) rfl, trivial⟩)
      apply sc
      ·intro a w' vs σ hS hl hs hk
       have f64 : a.tmps[64]?.getD undef = .bool true := svf hk 27
       exact rq (.bool false) (wanted_yes rfl rfl rfl (svv hk 17)) (by simp [execOp, Act.eval, f64, go_sem]) hl hs hS
      apply sc
      ·intro a w' vs σ hS hl hs hk
       have f54 : a.tmps[54]?.getD undef = .bool false := svf hk 17
       have f65 : a.tmps[65]?.getD undef = .bool false := svf hk 28
       exact rp (.bool false) (by simp [execOp, Act.eval, f54, f65, go_sem]) hl hs hS
      apply sc
      ·intro a w' vs σ hS hl hs hk
       have f66 : a.tmps[66]?.getD undef = .bool false := svf hk 29
       exact rp (.bool false) (by simp [execOp, Act.eval, f66, go_sem]) hl hs hS
      apply sc
      ·intro a w' vs σ hS hl hs hk
       have f6 : a.tmps[6]?.getD undef = .pointer (some ⟨gu, 0, none⟩) := sof hk
       exact rq (pt gu 0) (wanted_yes rfl rfl rfl (svv hk 30)) (by simp [execOp, Act.eval, f6, go_sem]) hl hs hS
      apply sc
      ·intro a w' vs σ hS hl hs hk
       have e68 : a.tmps.getD 68 undef = .pointer (some ⟨gu, 0, none⟩) := svv hk 31
       exact ro_call (f := 29) (wanted_yes rfl rfl rfl (svv hk 30)) rfl (by simp only [List.map_toArray, List.map_cons, List.map_nil, Act.eval, e68] <;> rfl) (fun _ _ => by kernel_rfl) ((Cols_any hS (sg (hs 3 (by decide)))).mono fun e w2 ⟨h1, h2⟩ => ⟨_, h1, sp_same (by kernel_rfl) hl hs h2 rfl, trivial⟩)
      apply sc
      ·intro a w' vs σ hS hl hs hk
       have f1 : a.tmps[1]?.getD undef = .pointer (some ⟨x, 0, none⟩) := sof hk
       exact rq (pt x 0) (wanted_yes rfl rfl rfl (svv hk 30)) (by simp [execOp, Act.eval, f1, go_sem]) hl hs hS
      apply sc
      ·intro a w' vs σ hS hl hs hk
       have f70 : a.tmps[70]?.getD undef = .pointer (some ⟨x, 0, none⟩) := svf hk 33
       exact rq (pt x 0) (wanted_yes rfl rfl rfl (svv hk 30)) (by simp [execOp, Act.eval, f70, go_sem]) hl hs hS
      apply sc
      ·intro a w' vs σ hS hl hs hk
       have f71 : a.tmps[71]?.getD undef = .pointer (some ⟨x, 0, none⟩) := svf hk 34
       exact rq (pt x 0) (wanted_yes rfl rfl rfl (svv hk 30)) (by simp [execOp, Act.eval, f71, go_sem]) hl hs hS
      apply sc
      ·intro a w' vs σ hS hl hs hk
       have f72 : a.tmps[72]?.getD undef = .pointer (some ⟨x, 0, none⟩) := svf hk 35
       have hx := (hS.box (sg (hs 5 (by decide)))).rpair.1
       exact rq (pt mr 0) (wanted_yes rfl rfl rfl (svv hk 30)) (by simp [execOp, Act.eval, f72, go_sem, hx]) hl hs hS
      apply sc
      ·intro a w' vs σ hS hl hs hk
       have f73 : a.tmps[73]?.getD undef = .pointer (some ⟨mr, 0, none⟩) := svf hk 36
       exact rq (pt mr 0) (wanted_yes rfl rfl rfl (svv hk 30)) (by simp [execOp, Act.eval, f73, go_sem]) hl hs hS
      apply sc
      ·intro a w' vs σ hS hl hs hk
       have f74 : a.tmps[74]?.getD undef = .pointer (some ⟨mr, 0, none⟩) := svf hk 37
       exact rq (pt mr 0) (wanted_yes rfl rfl rfl (svv hk 30)) (by simp [execOp, Act.eval, f74, go_sem]) hl hs hS
      apply sc
      ·intro a w' vs σ hS hl hs hk
       have f75 : a.tmps[75]?.getD undef = .pointer (some ⟨mr, 0, none⟩) := svf hk 38
       have hx := (hS.box (sg (hs 6 (by decide)))).cell
       exact rq (.int .i64 ↑s.cols) (wanted_yes rfl rfl rfl (svv hk 30)) (by simp [execOp, Act.eval, f75, go_sem, hx]) hl hs hS
      apply sc
      ·intro a w' vs σ hS hl hs hk
       have f69 : a.tmps[69]?.getD undef = .int .i64 ↑s.cols := svf hk 32
       have f76 : a.tmps[76]?.getD undef = .int .i64 ↑s.cols := svf hk 39
       exact rq (.bool false) (wanted_yes rfl rfl rfl (svv hk 30)) (by simp [execOp, Act.eval, f69, f76, go_sem]) hl hs hS
      apply sc
      ·intro a w' vs σ hS hl hs hk
       have f67 : a.tmps[67]?.getD undef = .bool false := svf hk 30
       have f77 : a.tmps[77]?.getD undef = .bool false := svf hk 40
       exact rp (.bool false) (by simp [execOp, Act.eval, f67, f77, go_sem]) hl hs hS
      apply sc
      ·intro a w' vs σ hS hl hs hk
       have f78 : a.tmps[78]?.getD undef = .bool false := svf hk 41
       exact rp (.bool false) (by simp [execOp, Act.eval, f78, go_sem]) hl hs hS
      apply sc
      ·intro a w' vs σ hS hl hs hk
       have f7 : a.tmps[7]?.getD undef = .pointer (some ⟨gm, 0, none⟩) := sof hk
       exact rq (pt gm 0) (wanted_yes rfl rfl rfl (svv hk 42)) (by simp [execOp, Act.eval, f7, go_sem]) hl hs hS
      apply sc
      ·intro a w' vs σ hS hl hs hk
       have e80 : a.tmps.getD 80 undef = .pointer (some ⟨gm, 0, none⟩) := svv hk 43
       exact ro_call (f := 29) (wanted_yes rfl rfl rfl (svv hk 42)) rfl (by simp only [List.map_toArray, List.map_cons, List.map_nil, Act.eval, e80] <;> rfl) (fun _ _ => by kernel_rfl) ((Cols_any hS (sg (hs 2 (by decide)))).mono fun e w2 ⟨h1, h2⟩ => ⟨_, h1, sp_same (by kernel_rfl) hl hs h2 rfl, trivial⟩)
      apply sc
      ·intro a w' vs σ hS hl hs hk
       have f1 : a.tmps[1]?.getD undef = .pointer (some ⟨x, 0, none⟩) := sof hk
       exact rq (pt x 0) (wanted_yes rfl rfl rfl (svv hk 42)) (by simp [execOp, Act.eval, f1, go_sem]) hl hs hS
      apply sc
      ·intro a w' vs σ hS hl hs hk
       have f82 : a.tmps[82]?.getD undef = .pointer (some ⟨x, 0, none⟩) := svf hk 45
       exact rq (pt x 0) (wanted_yes rfl rfl rfl (svv hk 42)) (by simp [execOp, Act.eval, f82, go_sem]) hl hs hS
      apply sc
      ·intro a w' vs σ hS hl hs hk
       have f83 : a.tmps[83]?.getD undef = .pointer (some ⟨x, 0, none⟩) := svf hk 46
       exact rq (pt x 0) (wanted_yes rfl rfl rfl (svv hk 42)) (by simp [execOp, Act.eval, f83, go_sem]) hl hs hS
      apply sc
      ·intro a w' vs σ hS hl hs hk
       have f84 : a.tmps[84]?.getD undef = .pointer (some ⟨x, 0, none⟩) := svf hk 47
       have hx := (hS.box (sg (hs 5 (by decide)))).rpair.1
       exact rq (pt mr 0) (wanted_yes rfl rfl rfl (svv hk 42)) (by simp [execOp, Act.eval, f84, go_sem, hx]) hl hs hS
      apply sc
      ·intro a w' vs σ hS hl hs hk
       have f85 : a.tmps[85]?.getD undef = .pointer (some ⟨mr, 0, none⟩) := svf hk 48
       exact rq (pt mr 0) (wanted_yes rfl rfl rfl (svv hk 42)) (by simp [execOp, Act.eval, f85, go_sem]) hl hs hS
      apply sc
      ·intro a w' vs σ hS hl hs hk
       have f86 : a.tmps[86]?.getD undef = .pointer (some ⟨mr, 0, none⟩) := svf hk 49
       exact rq (pt mr 0) (wanted_yes rfl rfl rfl (svv hk 42)) (by simp [execOp, Act.eval, f86, go_sem]) hl hs hS
      apply sc
      ·intro a w' vs σ hS hl hs hk
       have f87 : a.tmps[87]?.getD undef = .pointer (some ⟨mr, 0, none⟩) := svf hk 50
       have hx := (hS.box (sg (hs 6 (by decide)))).cell
       exact rq (.int .i64 ↑s.cols) (wanted_yes rfl rfl rfl (svv hk 42)) (by simp [execOp, Act.eval, f87, go_sem, hx]) hl hs hS
      apply sc
      ·intro a w' vs σ hS hl hs hk
       have f81 : a.tmps[81]?.getD undef = .int .i64 ↑s.cols := svf hk 44
       have f88 : a.tmps[88]?.getD undef = .int .i64 ↑s.cols := svf hk 51
       exact rq (.bool false) (wanted_yes rfl rfl rfl (svv hk 42)) (by simp [execOp, Act.eval, f81, f88, go_sem]) hl hs hS
      apply sc
      ·intro a w' vs σ hS hl hs hk
       have f79 : a.tmps[79]?.getD undef = .bool false := svf hk 42
       have f89 : a.tmps[89]?.getD undef = .bool false := svf hk 52
       exact rp (.bool false) (by simp [execOp, Act.eval, f79, f89, go_sem]) hl hs hS
      exact SSteps.nil
     ·intro vs w' hS hv
      have q0 : vs 0 = _ := hv 0 (by decide)
      have q1 : vs 1 = _ := hv 1 (by decide)
      have q2 : vs 2 = _ := hv 2 (by decide)
      have q3 : vs 3 = _ := hv 3 (by decide)
      have q4 : vs 4 = _ := hv 4 (by decide)
      have q5 : vs 5 = _ := hv 5 (by decide)
      have q6 : vs 6 = _ := hv 6 (by decide)
      have q7 : vs 7 = _ := hv 7 (by decide)
      have q9 : vs 9 = _ := hv 9 (by decide)
      have q10 : vs 10 = _ := hv 10 (by decide)
      have q11 : vs 11 = _ := hv 11 (by decide)
      have q12 : vs 12 = _ := hv 12 (by decide)
      have q13 : vs 13 = _ := hv 13 (by decide)
      have q14 : vs 14 = _ := hv 14 (by decide)
      have q15 : vs 15 = _ := hv 15 (by decide)
      have q16 : vs 16 = _ := hv 16 (by decide)
      have q17 : vs 17 = _ := hv 17 (by decide)
      have q18 : vs 18 = _ := hv 18 (by decide)
      have q20 : vs 20 = _ := hv 20 (by decide)
      have q21 : vs 21 = _ := hv 21 (by decide)
      have q22 : vs 22 = _ := hv 22 (by decide)
      have q23 : vs 23 = _ := hv 23 (by decide)
      have q24 : vs 24 = _ := hv 24 (by decide)
      have q25 : vs 25 = _ := hv 25 (by decide)
      have q26 : vs 26 = _ := hv 26 (by decide)
      have q27 : vs 27 = _ := hv 27 (by decide)
      have q28 : vs 28 = _ := hv 28 (by decide)
      have q29 : vs 29 = _ := hv 29 (by decide)
      have q30 : vs 30 = _ := hv 30 (by decide)
      have q31 : vs 31 = _ := hv 31 (by decide)
      have q32 : vs 32 = _ := hv 32 (by decide)
      have q33 : vs 33 = _ := hv 33 (by decide)
      have q34 : vs 34 = _ := hv 34 (by decide)
      have q35 : vs 35 = _ := hv 35 (by decide)
      have q36 : vs 36 = _ := hv 36 (by decide)
      have q37 : vs 37 = _ := hv 37 (by decide)
      have q38 : vs 38 = _ := hv 38 (by decide)
      have q39 : vs 39 = _ := hv 39 (by decide)
      have q40 : vs 40 = _ := hv 40 (by decide)
      have q41 : vs 41 = _ := hv 41 (by decide)
      have q42 : vs 42 = _ := hv 42 (by decide)
      have q43 : vs 43 = _ := hv 43 (by decide)
      have q44 : vs 44 = _ := hv 44 (by decide)
      have q45 : vs 45 = _ := hv 45 (by decide)
      have q46 : vs 46 = _ := hv 46 (by decide)
      have q47 : vs 47 = _ := hv 47 (by decide)
      have q48 : vs 48 = _ := hv 48 (by decide)
      have q49 : vs 49 = _ := hv 49 (by decide)
      have q50 : vs 50 = _ := hv 50 (by decide)
      have q51 : vs 51 = _ := hv 51 (by decide)
      have q52 : vs 52 = _ := hv 52 (by decide)
      have q53 : vs 53 = _ := hv 53 (by decide)
      have S2 := Lib.hid hS
      simp only [putL, Act.put, Nat.zero_add, Nat.reduceAdd, List.setIfInBounds_toArray, List.set_cons_succ, List.set_cons_zero, q0, q1, q2, q3, q4, q5, q6, q7, q9, q10, q11, q12, q13, q14, q15, q16, q17, q18, q20, q21, q22, q23, q24, q25, q26, q27, q28, q29, q30, q31, q32, q33, q34, q35, q36, q37, q38, q39, q40, q41, q42, q43, q44, q45, q46, q47, q48, q49, q50, q51, q52, q53]
      clear hS hv q0 q1 q2 q3 q4 q5 q6 q7 q9 q10 q11 q12 q13 q14 q15 q16 q17 q18 q20 q21 q22 q23 q24 q25 q26 q27 q28 q29 q30 q31 q32 q33 q34 q35 q36 q37 q38 q39 q40 q41 q42 q43 q44 q45 q46 q47 q48 q49 q50 q51 q52 q53
      have S4 := S2
      clear S2 S3
      go_wp2_with fail
      refine (put24_any (row := 0) (col := 0) _ HT.out (show Objs w0 _ (.grid gu 83 ↑s.cols _ :: _) from (Objs.pick (σ := [_, _, _, _, _, _, _, _, _, _]) (os := os) S4.out [some 3, some 2, some 4, some 5, some 6, some 7, some 8, some 9] (by decide) rfl)) HG.out.c0 HG.out.cm HU.out.1).mono ?_
      rintro e w5 ⟨rfl, hS⟩
      have S5 := Lib.hid hS
      clear hS S4
      go_wp2_with fail
      refine (put24_any (row := 0) (col := 0) _ HT.out (show Objs w0 _ (.grid gm 83 ↑s.cols _ :: _) from S5.out.tail) HG.out.c0 HG.out.cm HG.out.M.1).mono ?_
      rintro e w6 ⟨rfl, hS⟩
      have S6 := Lib.hid hS
      clear hS S5
      go_wp2_with fail
      go_roundw
      case rel => exact ⟨n + 1, by omega, by go_num, alike_close S6.out.tail⟩
      case measure => simp [intOf]; omega
    ·have HM0 := Lib.hid hm0
     have S3 := Lib.hid (by have h := SX.out; rw [show s.U = s.O from if_neg hm0] at h; exact h)
     have HU := HG.out.O
     have HU := Lib.hid HU
     clear hm0 SX
     go_upto_region 7 with (fail)
     refine wp_region_stage (w0 := w0) (os := os) (by kernel_rfl) (by kernel_rfl) (by kernel_rfl) [(0, 8, [8], fun vs => .lines (vs 8) s.O), (1, 19, [19], fun vs => .lines (vs 19) s.M)] [[], [], [], [], [], [], [], [], [0, 3], [], [5], [], [], [7], [0, 9], [], [], [], [], [1, 2], [], [], [], [5], [], [], [6], [1, 8], [], [], [], [], [3], [], [], [], [5], [], [], [6], [], [], [], [], [2], [], [], [], [5], [], [], [6], [], []] [.none, .none, .grid gm 83 ↑s.cols s.M, .grid gu 83 ↑s.cols s.O, pairO p s, .box x 103 (rpv mr ro s.mode (s.kept.getD saved0) s.kept.isSome), .box mr 106 #[.int .i64 ↑s.cols, .slice Am s.M.length cm], .box ro 106 #[.int .i64 ↑s.cols, .slice Ao s.O.length co], .lines (.slice Am s.M.length cm) s.M, .lines (.slice Ao s.O.length co) s.O] (fun opn u => match opn with | 0 => u = .pointer (some ⟨gu, 0, none⟩) | 1 => u = .bool false | 2 => u = .bool false | 3 => u = .pointer (some ⟨gm, 0, none⟩) | 4 => u = .bool false | 5 => u = .bool false | 6 => u = .bool false | 7 => u = .pointer (some ⟨gu, 0, none⟩) | 8 => ∃ A c, u = .slice A s.O.length c | 9 => u = .pointer (some ⟨x, 0, none⟩) | 10 => u = .pointer (some ⟨ro, 0, none⟩) | 11 => u = .pointer (some ⟨ro, 0, none⟩) | 12 => u = .pointer (some ⟨ro, 1, none⟩) | 13 => u = .slice Ao s.O.length co | 14 => u = .bool true | 15 => u = .bool false | 16 => u = .bool false | 17 => u = .bool false | 18 => u = .pointer (some ⟨gm, 0, none⟩) | 19 => ∃ A c, u = .slice A s.M.length c | 20 => u = .pointer (some ⟨x, 0, none⟩) | 21 => u = .pointer (some ⟨x, 0, none⟩) | 22 => u = .pointer (some ⟨x, 0, none⟩) | 23 => u = .pointer (some ⟨mr, 0, none⟩) | 24 => u = .pointer (some ⟨mr, 0, none⟩) | 25 => u = .pointer (some ⟨mr, 1, none⟩) | 26 => u = .slice Am s.M.length cm | 27 => u = .bool true | 28 => u = .bool false | 29 => u = .bool false | 30 => u = .bool false | 31 => u = .pointer (some ⟨gu, 0, none⟩) | 32 => u = .int .i64 ↑s.cols | 33 => u = .pointer (some ⟨x, 0, none⟩) | 34 => u = .pointer (some ⟨x, 0, none⟩) | 35 => u = .pointer (some ⟨x, 0, none⟩) | 36 => u = .pointer (some ⟨mr, 0, none⟩) | 37 => u = .pointer (some ⟨mr, 0, none⟩) | 38 => u = .pointer (some ⟨mr, 0, none⟩) | 39 => u = .int .i64 ↑s.cols | 40 => u = .bool false | 41 => u = .bool false | 42 => u = .bool false | 43 => u = .pointer (some ⟨gm, 0, none⟩) | 44 => u = .int .i64 ↑s.cols | 45 => u = .pointer (some ⟨x, 0, none⟩) | 46 => u = .pointer (some ⟨x, 0, none⟩) | 47 => u = .pointer (some ⟨x, 0, none⟩) | 48 => u = .pointer (some ⟨mr, 0, none⟩) | 49 => u = .pointer (some ⟨mr, 0, none⟩) | 50 => u = .pointer (some ⟨mr, 0, none⟩) | 51 => u = .int .i64 ↑s.cols | 52 => u = .bool false | 53 => u = .bool false | _ => True) (fun vs => [.lines (vs 8) s.O, .lines (vs 19) s.M, .grid gm 83 ↑s.cols s.M, .grid gu 83 ↑s.cols s.O, pairO p s, .box x 103 (rpv mr ro s.mode (s.kept.getD saved0) s.kept.isSome), .box mr 106 #[.int .i64 ↑s.cols, .slice Am s.M.length cm], .box ro 106 #[.int .i64 ↑s.cols, .slice Ao s.O.length co], .lines (.slice Am s.M.length cm) s.M, .lines (.slice Ao s.O.length co) s.O]) (by kernel_rfl) (fun vs => by rfl) S3.out.pad.pad ?_ ?_
     ·apply sc
      ·intro a w' vs σ hS hl hs hk
       have f6 : a.tmps[6]?.getD undef = .pointer (some ⟨gu, 0, none⟩) := sof hk
       exact rp (pt gu 0) (by simp [execOp, Act.eval, f6, go_sem]) hl hs hS
      apply sc
      ·intro a w' vs σ hS hl hs hk
       have f37 : a.tmps[37]?.getD undef = .pointer (some ⟨gu, 0, none⟩) := svf hk 0
       exact rp (.bool false) (by simp [execOp, Act.eval, f37, go_sem]) hl hs hS
      apply sc
      ·intro a w' vs σ hS hl hs hk
       have f38 : a.tmps[38]?.getD undef = .bool false := svf hk 1
       exact rp (.bool false) (by simp [execOp, Act.eval, f38, go_sem]) hl hs hS
      apply sc
      ·intro a w' vs σ hS hl hs hk
       have f7 : a.tmps[7]?.getD undef = .pointer (some ⟨gm, 0, none⟩) := sof hk
       exact rq (pt gm 0) (wanted_yes rfl rfl rfl (svv hk 2)) (by simp [execOp, Act.eval, f7, go_sem]) hl hs hS
      apply sc
      ·intro a w' vs σ hS hl hs hk
       have f40 : a.tmps[40]?.getD undef = .pointer (some ⟨gm, 0, none⟩) := svf hk 3
       exact rq (.bool false) (wanted_yes rfl rfl rfl (svv hk 2)) (by simp [execOp, Act.eval, f40, go_sem]) hl hs hS
      apply sc
      ·intro a w' vs σ hS hl hs hk
       have f39 : a.tmps[39]?.getD undef = .bool false := svf hk 2
       have f41 : a.tmps[41]?.getD undef = .bool false := svf hk 4
       exact rp (.bool false) (by simp [execOp, Act.eval, f39, f41, go_sem]) hl hs hS
      apply sc
      ·intro a w' vs σ hS hl hs hk
       have f42 : a.tmps[42]?.getD undef = .bool false := svf hk 5
       exact rp (.bool false) (by simp [execOp, Act.eval, f42, go_sem]) hl hs hS
      apply sc
      ·intro a w' vs σ hS hl hs hk
       have f6 : a.tmps[6]?.getD undef = .pointer (some ⟨gu, 0, none⟩) := sof hk
       exact rq (pt gu 0) (wanted_yes rfl rfl rfl (svv hk 6)) (by simp [execOp, Act.eval, f6, go_sem]) hl hs hS
      apply sc
      ·intro a w' vs σ hS hl hs hk
       have e44 : a.tmps.getD 44 undef = .pointer (some ⟨gu, 0, none⟩) := svv hk 7
       have h1 : σ[0]? = some .none := hs 0 (by decide)
       exact ro_call (f := 40) (wanted_yes rfl rfl rfl (svv hk 6)) rfl (by simp only [List.map_toArray, List.map_cons, List.map_nil, Act.eval, e44] <;> rfl) (fun _ _ => by kernel_rfl) ((Lines_any hS (k := 3) (sg (hs 3 (by decide))) HG.out.c0 (HG.out.O.1.mill HG.out.cm) (by rw [HG.out.O.2.1]; have := HG.out.rm; omega)).mono fun e w2 ⟨v9, h3, h2⟩ => ⟨v9, h3, sp_set 0 (.lines v9 s.O) (by kernel_rfl) (by simp) (by decide) hl hs (by rfl) (h2.place (sg h1)) (by obtain ⟨A8, c8, e8, -, -⟩ := h2.linesRd (k := 0) rfl; exact ⟨A8, c8, e8⟩), trivial⟩)
      apply sc
      ·intro a w' vs σ hS hl hs hk
       have f1 : a.tmps[1]?.getD undef = .pointer (some ⟨x, 0, none⟩) := sof hk
       exact rq (pt x 0) (wanted_yes rfl rfl rfl (svv hk 6)) (by simp [execOp, Act.eval, f1, go_sem]) hl hs hS
      apply sc
      ·intro a w' vs σ hS hl hs hk
       have e46 : a.tmps.getD 46 undef = .pointer (some ⟨x, 0, none⟩) := svv hk 9
       have hcon := used_any hS (sg (hs 5 (by decide)))
       rw [if_neg HM0.out] at hcon
       exact ro_call (f := 51) (wanted_yes rfl rfl rfl (svv hk 6)) rfl (by simp only [List.map_toArray, List.map_cons, List.map_nil, Act.eval, e46] <;> rfl) (fun _ _ => by kernel_rfl) ((hcon).mono fun e w2 ⟨h1, h2⟩ => ⟨_, h1, sp_same (by kernel_rfl) hl hs h2 rfl, trivial⟩)
      apply sc
      ·intro a w' vs σ hS hl hs hk
       have f47 : a.tmps[47]?.getD undef = .pointer (some ⟨ro, 0, none⟩) := svf hk 10
       exact rq (pt ro 0) (wanted_yes rfl rfl rfl (svv hk 6)) (by simp [execOp, Act.eval, f47, go_sem]) hl hs hS
      apply sc
      ·intro a w' vs σ hS hl hs hk
       have f48 : a.tmps[48]?.getD undef = .pointer (some ⟨ro, 0, none⟩) := svf hk 11
       exact rq (pt ro 1) (wanted_yes rfl rfl rfl (svv hk 6)) (by simp [execOp, Act.eval, f48, go_sem]) hl hs hS
      apply sc
      ·intro a w' vs σ hS hl hs hk
       have f49 : a.tmps[49]?.getD undef = .pointer (some ⟨ro, 1, none⟩) := svf hk 12
       have hx := (hS.box (sg (hs 7 (by decide)))).cell
       exact rq (.slice Ao s.O.length co) (wanted_yes rfl rfl rfl (svv hk 6)) (by simp [execOp, Act.eval, f49, go_sem, hx]) hl hs hS
      apply sc
      ·intro a w' vs σ hS hl hs hk
       have e45 : a.tmps.getD 45 undef = vs 8 := sk_val hk 8 (by kernel_rfl) rfl rfl
       have p45 : (fun u : Value => ∃ A c, u = .slice A s.O.length c) (vs 8) := (hk.1 8 (by kernel_rfl)).1
       have e50 : a.tmps.getD 50 undef = .slice Ao s.O.length co := svv hk 13
       obtain ⟨A9, c9, q9⟩ := p45
       rw [q9] at e45
       have h0 : σ[0]? = some (.lines (vs 8) s.O) := hs 0 (by decide)
       rw [q9] at h0
       have hcon := r14SameLines_any A9 Ao c9 co s.O s.O w' (hS.linesRd' (sg h0)).2.2 (hS.linesRd' (sg (hs 9 (by decide)))).2.2 (by rw [HG.out.O.2.1]; have := HG.out.rm; omega) (by rw [HG.out.O.2.1]; have := HG.out.rm; omega) (HG.out.O.1.mill HG.out.cm) (HG.out.O.1.mill HG.out.cm)
       rw [show decide (s.O = s.O) = true by simp] at hcon
       exact ro_call (f := 50) (wanted_yes rfl rfl rfl (svv hk 6)) rfl (by simp only [List.map_toArray, List.map_cons, List.map_nil, Act.eval, e45, e50] <;> rfl) (fun _ _ => by kernel_rfl) (hcon.mono fun e w2 ⟨h1, h2⟩ => ⟨_, h1, sp_same (by kernel_rfl) hl hs (hS.bel h2) rfl, trivial⟩)
      apply sc
      ·intro a w' vs σ hS hl hs hk
       have f51 : a.tmps[51]?.getD undef = .bool true := svf hk 14
       exact rq (.bool false) (wanted_yes rfl rfl rfl (svv hk 6)) (by simp [execOp, Act.eval, f51, go_sem]) hl hs hS
      apply sc
      ·intro a w' vs σ hS hl hs hk
       have f43 : a.tmps[43]?.getD undef = .bool false := svf hk 6
       have f52 : a.tmps[52]?.getD undef = .bool false := svf hk 15
       exact rp (.bool false) (by simp [execOp, Act.eval, f43, f52, go_sem]) hl hs hS
      apply sc
      ·intro a w' vs σ hS hl hs hk
       have f53 : a.tmps[53]?.getD undef = .bool false := svf hk 16
       exact rp (.bool false) (by simp [execOp, Act.eval, f53, go_sem]) hl hs hS
      apply sc
      ·intro a w' vs σ hS hl hs hk
       have f7 : a.tmps[7]?.getD undef = .pointer (some ⟨gm, 0, none⟩) := sof hk
       exact rq (pt gm 0) (wanted_yes rfl rfl rfl (svv hk 17)) (by simp [execOp, Act.eval, f7, go_sem]) hl hs hS
      apply sc
      ·intro a w' vs σ hS hl hs hk
       have e55 : a.tmps.getD 55 undef = .pointer (some ⟨gm, 0, none⟩) := svv hk 18
       have h1 : σ[1]? = some .none := hs 1 (by decide)
       exact ro_call (f := 40) (wanted_yes rfl rfl rfl (svv hk 17)) rfl (by simp only [List.map_toArray, List.map_cons, List.map_nil, Act.eval, e55] <;> rfl) (fun _ _ => by kernel_rfl) ((Lines_any hS (k := 2) (sg (hs 2 (by decide))) HG.out.c0 (HG.out.M.1.mill HG.out.cm) (by rw [HG.out.M.2.1]; have := HG.out.rm; omega)).mono fun e w2 ⟨v9, h3, h2⟩ => ⟨v9, h3, sp_set 1 (.lines v9 s.M) (by kernel_rfl) (by simp) (by decide) hl hs (by rfl) (h2.place (sg h1)) (by obtain ⟨A8, c8, e8, -, -⟩ := h2.linesRd (k := 0) rfl; exact ⟨A8, c8, e8⟩), trivial⟩)
      apply sc
      ·intro a w' vs σ hS hl hs hk
       have f1 : a.tmps[1]?.getD undef = .pointer (some ⟨x, 0, none⟩) := sof hk
       exact rq (pt x 0) (wanted_yes rfl rfl rfl (svv hk 17)) (by simp [execOp, Act.eval, f1, go_sem]) hl hs hS
      apply sc
      ·intro a w' vs σ hS hl hs hk
       have f57 : a.tmps[57]?.getD undef = .pointer (some ⟨x, 0, none⟩) := svf hk 20
       exact rq (pt x 0) (wanted_yes rfl rfl rfl (svv hk 17)) (by simp [execOp, Act.eval, f57, go_sem]) hl hs hS
      apply sc
      ·intro a w' vs σ hS hl hs hk
       have f58 : a.tmps[58]?.getD undef = .pointer (some ⟨x, 0, none⟩) := svf hk 21
       exact rq (pt x 0) (wanted_yes rfl rfl rfl (svv hk 17)) (by simp [execOp, Act.eval, f58, go_sem]) hl hs hS
      apply sc
      ·intro a w' vs σ hS hl hs hk
       have f59 : a.tmps[59]?.getD undef = .pointer (some ⟨x, 0, none⟩) := svf hk 22
       have hx := (hS.box (sg (hs 5 (by decide)))).rpair.1
       exact rq (pt mr 0) (wanted_yes rfl rfl rfl (svv hk 17)) (by simp [execOp, Act.eval, f59, go_sem, hx]) hl hs hS
      apply sc
      ·intro a w' vs σ hS hl hs hk
       have f60 : a.tmps[60]?.getD undef = .pointer (some ⟨mr, 0, none⟩) := svf hk 23
       exact rq (pt mr 0) (wanted_yes rfl rfl rfl (svv hk 17)) (by simp [execOp, Act.eval, f60, go_sem]) hl hs hS
      apply sc
      ·intro a w' vs σ hS hl hs hk
       have f61 : a.tmps[61]?.getD undef = .pointer (some ⟨mr, 0, none⟩) := svf hk 24
       exact rq (pt mr 1) (wanted_yes rfl rfl rfl (svv hk 17)) (by simp [execOp, Act.eval, f61, go_sem]) hl hs hS
      apply sc
      ·intro a w' vs σ hS hl hs hk
       have f62 : a.tmps[62]?.getD undef = .pointer (some ⟨mr, 1, none⟩) := svf hk 25
       have hx := (hS.box (sg (hs 6 (by decide)))).cell
       exact rq (.slice Am s.M.length cm) (wanted_yes rfl rfl rfl (svv hk 17)) (by simp [execOp, Act.eval, f62, go_sem, hx]) hl hs hS
      apply sc
      ·intro a w' vs σ hS hl hs hk
       have e56 : a.tmps.getD 56 undef = vs 19 := sk_val hk 19 (by kernel_rfl) rfl rfl
       have p56 : (fun u : Value => ∃ A c, u = .slice A s.M.length c) (vs 19) := (hk.1 19 (by kernel_rfl)).1
       have e63 : a.tmps.getD 63 undef = .slice Am s.M.length cm := svv hk 26
       obtain ⟨A9, c9, q9⟩ := p56
       rw [q9] at e56
       have h0 : σ[1]? = some (.lines (vs 19) s.M) := hs 1 (by decide)
       rw [q9] at h0
       have hcon := r14SameLines_any A9 Am c9 cm s.M s.M w' (hS.linesRd' (sg h0)).2.2 (hS.linesRd' (sg (hs 8 (by decide)))).2.2 (by rw [HG.out.M.2.1]; have := HG.out.rm; omega) (by rw [HG.out.M.2.1]; have := HG.out.rm; omega) (HG.out.M.1.mill HG.out.cm) (HG.out.M.1.mill HG.out.cm)
       rw [show decide (s.M = s.M) = true by simp] at hcon
       exact ro_call (f := 50) (wanted_yes rfl rfl rfl (svv hk 17)) rfl (by simp only [List.map_toArray, List.map_cons, List.map_nil, Act.eval, e56, e63] <;> rfl) (fun _ _ => by kernel_rfl) (hcon.mono fun e w2 ⟨h1, h2⟩ => ⟨_, h1, sp_same (by kernel_rfl) hl hs (hS.bel h2) rfl, trivial⟩)
      apply sc
      ·intro a w' vs σ hS hl hs hk
       have f64 : a.tmps[64]?.getD undef = .bool true := svf hk 27
       exact rq (.bool false) (wanted_yes rfl rfl rfl (svv hk 17)) (by simp [execOp, Act.eval, f64, go_sem]) hl hs hS
      apply sc
      ·intro a w' vs σ hS hl hs hk
       have f54 : a.tmps[54]?.getD undef = .bool false := svf hk 17
       have f65 : a.tmps[65]?.getD undef = .bool false := svf hk 28
       exact rp (.bool false) (by simp [execOp, Act.eval, f54, f65, go_sem]) hl hs hS
      apply sc
      ·intro a w' vs σ hS hl hs hk
       have f66 : a.tmps[66]?.getD undef = .bool false := svf hk 29
       exact rp (.bool false) (by simp [execOp, Act.eval, f66, go_sem]) hl hs hS
      apply sc
      ·intro a w' vs σ hS hl hs hk
       have f6 : a.tmps[6]?.getD undef = .pointer (some ⟨gu, 0, none⟩) := sof hk
       exact rq (pt gu 0) (wanted_yes rfl rfl rfl (svv hk 30)) (by simp [execOp, Act.eval, f6, go_sem]) hl hs hS
      apply sc
      ·intro a w' vs σ hS hl hs hk
       have e68 : a.tmps.getD 68 undef = .pointer (some ⟨gu, 0, none⟩) := svv hk 31
       exact ro_call (f := 29) (wanted_yes rfl rfl rfl (svv hk 30)) rfl (by simp only [List.map_toArray, List.map_cons, List.map_nil, Act.eval, e68] <;> rfl) (fun _ _ => by kernel_rfl) ((Cols_any hS (sg (hs 3 (by decide)))).mono fun e w2 ⟨h1, h2⟩ => ⟨_, h1, sp_same (by kernel_rfl) hl hs h2 rfl, trivial⟩)
      apply sc
      ·intro a w' vs σ hS hl hs hk
       have f1 : a.tmps[1]?.getD undef = .pointer (some ⟨x, 0, none⟩) := sof hk
       exact rq (pt x 0) (wanted_yes rfl rfl rfl (svv hk 30)) (by simp [execOp, Act.eval, f1, go_sem]) hl hs hS
      apply sc
      ·intro a w' vs σ hS hl hs hk
       have f70 : a.tmps[70]?.getD undef = .pointer (some ⟨x, 0, none⟩) := svf hk 33
       exact rq (pt x 0) (wanted_yes rfl rfl rfl (svv hk 30)) (by simp [execOp, Act.eval, f70, go_sem]) hl hs hS
      apply sc
      ·intro a w' vs σ hS hl hs hk
       have f71 : a.tmps[71]?.getD undef = .pointer (some ⟨x, 0, none⟩) := svf hk 34
       exact rq (pt x 0) (wanted_yes rfl rfl rfl (svv hk 30)) (by simp [execOp, Act.eval, f71, go_sem]) hl hs hS
      apply sc
      ·intro a w' vs σ hS hl hs hk
       have f72 : a.tmps[72]?.getD undef = .pointer (some ⟨x, 0, none⟩) := svf hk 35
       have hx := (hS.box (sg (hs 5 (by decide)))).rpair.1
       exact rq (pt mr 0) (wanted_yes rfl rfl rfl (svv hk 30)) (by simp [execOp, Act.eval, f72, go_sem, hx]) hl hs hS
      apply sc
      ·intro a w' vs σ hS hl hs hk
       have f73 : a.tmps[73]?.getD undef = .pointer (some ⟨mr, 0, none⟩) := svf hk 36
       exact rq (pt mr 0) (wanted_yes rfl rfl rfl (svv hk 30)) (by simp [execOp, Act.eval, f73, go_sem]) hl hs hS
      apply sc
      ·intro a w' vs σ hS hl hs hk
       have f74 : a.tmps[74]?.getD undef = .pointer (some ⟨mr, 0, none⟩) := svf hk 37
       exact rq (pt mr 0) (wanted_yes rfl rfl rfl (svv hk 30)) (by simp [execOp, Act.eval, f74, go_sem]) hl hs hS
      apply sc
      ·intro a w' vs σ hS hl hs hk
       have f75 : a.tmps[75]?.getD undef = .pointer (some ⟨mr, 0, none⟩) := svf hk 38
       have hx := (hS.box (sg (hs 6 (by decide)))).cell
       exact rq (.int .i64 ↑s.cols) (wanted_yes rfl rfl rfl (svv hk 30)) (by simp [execOp, Act.eval, f75, go_sem, hx]) hl hs hS
      apply sc
      ·intro a w' vs σ hS hl hs hk
       have f69 : a.tmps[69]?.getD undef = .int .i64 ↑s.cols := svf hk 32
       have f76 : a.tmps[76]?.getD undef = .int .i64 ↑s.cols := svf hk 39
       exact rq (.bool false) (wanted_yes rfl rfl rfl (svv hk 30)) (by simp [execOp, Act.eval, f69, f76, go_sem]) hl hs hS
      apply sc
      ·intro a w' vs σ hS hl hs hk
       have f67 : a.tmps[67]?.getD undef = .bool false := svf hk 30
       have f77 : a.tmps[77]?.getD undef = .bool false := svf hk 40
       exact rp (.bool false) (by simp [execOp, Act.eval, f67, f77, go_sem]) hl hs hS
      apply sc
      ·intro a w' vs σ hS hl hs hk
       have f78 : a.tmps[78]?.getD undef = .bool false := svf hk 41
       exact rp (.bool false) (by simp [execOp, Act.eval, f78, go_sem]) hl hs hS
      apply sc
      ·intro a w' vs σ hS hl hs hk
       have f7 : a.tmps[7]?.getD undef = .pointer (some ⟨gm, 0, none⟩) := sof hk
       exact rq (pt gm 0) (wanted_yes rfl rfl rfl (svv hk 42)) (by simp [execOp, Act.eval, f7, go_sem]) hl hs hS
      apply sc
      ·intro a w' vs σ hS hl hs hk
       have e80 : a.tmps.getD 80 undef = .pointer (some ⟨gm, 0, none⟩) := svv hk 43
       exact ro_call (f := 29) (wanted_yes rfl rfl rfl (svv hk 42)) rfl (by simp only [List.map_toArray, List.map_cons, List.map_nil, Act.eval, e80] <;> rfl) (fun _ _ => by kernel_rfl) ((Cols_any hS (sg (hs 2 (by decide)))).mono fun e w2 ⟨h1, h2⟩ => ⟨_, h1, sp_same (by kernel_rfl) hl hs h2 rfl, trivial⟩)
      apply sc
      ·intro a w' vs σ hS hl hs hk
       have f1 : a.tmps[1]?.getD undef = .pointer (some ⟨x, 0, none⟩) := sof hk
       exact rq (pt x 0) (wanted_yes rfl rfl rfl (svv hk 42)) (by simp [execOp, Act.eval, f1, go_sem]) hl hs hS
      apply sc
      ·intro a w' vs σ hS hl hs hk
       have f82 : a.tmps[82]?.getD undef = .pointer (some ⟨x, 0, none⟩) := svf hk 45
       exact rq (pt x 0) (wanted_yes rfl rfl rfl (svv hk 42)) (by simp [execOp, Act.eval, f82, go_sem]) hl hs hS
      apply sc
      ·intro a w' vs σ hS hl hs hk
       have f83 : a.tmps[83]?.getD undef = .pointer (some ⟨x, 0, none⟩) := svf hk 46
       exact rq (pt x 0) (wanted_yes rfl rfl rfl (svv hk 42)) (by simp [execOp, Act.eval, f83, go_sem]) hl hs hS
      apply sc
      ·intro a w' vs σ hS hl hs hk
       have f84 : a.tmps[84]?.getD undef = .pointer (some ⟨x, 0, none⟩) := svf hk 47
       have hx := (hS.box (sg (hs 5 (by decide)))).rpair.1
       exact rq (pt mr 0) (wanted_yes rfl rfl rfl (svv hk 42)) (by simp [execOp, Act.eval, f84, go_sem, hx]) hl hs hS
      apply sc
      ·intro a w' vs σ hS hl hs hk
       have f85 : a.tmps[85]?.getD undef = .pointer (some ⟨mr, 0, none⟩) := svf hk 48
       exact rq (pt mr 0) (wanted_yes rfl rfl rfl (svv hk 42)) (by simp [execOp, Act.eval, f85, go_sem]) hl hs hS
      apply sc
      ·intro a w' vs σ hS hl hs hk
       have f86 : a.tmps[86]?.getD undef = .pointer (some ⟨mr, 0, none⟩) := svf hk 49
       exact rq (pt mr 0) (wanted_yes rfl rfl rfl (svv hk 42)) (by simp [execOp, Act.eval, f86, go_sem]) hl hs hS
      apply sc
      ·intro a w' vs σ hS hl hs hk
       have f87 : a.tmps[87]?.getD undef = .pointer (some ⟨mr, 0, none⟩) := svf hk 50
       have hx := (hS.box (sg (hs 6 (by decide)))).cell
       exact rq (.int .i64 ↑s.cols) (wanted_yes rfl rfl rfl (svv hk 42)) (by simp [execOp, Act.eval, f87, go_sem, hx]) hl hs hS
      apply sc
      ·intro a w' vs σ hS hl hs hk
       have f81 : a.tmps[81]?.getD undef = .int .i64 ↑s.cols := svf hk 44
       have f88 : a.tmps[88]?.getD undef = .int .i64 ↑s.cols := svf hk 51
       exact rq (.bool false) (wanted_yes rfl rfl rfl (svv hk 42)) (by simp [execOp, Act.eval, f81, f88, go_sem]) hl hs hS
      apply sc
      ·intro a w' vs σ hS hl hs hk
       have f79 : a.tmps[79]?.getD undef = .bool false := svf hk 42
       have f89 : a.tmps[89]?.getD undef = .bool false := svf hk 52
       exact rp (.bool false) (by simp [execOp, Act.eval, f79, f89, go_sem]) hl hs hS
      exact SSteps.nil
     ·intro vs w' hS hv
      have q0 : vs 0 = _ := hv 0 (by decide)
      have q1 : vs 1 = _ := hv 1 (by decide)
      have q2 : vs 2 = _ := hv 2 (by decide)
      have q3 : vs 3 = _ := hv 3 (by decide)
      have q4 : vs 4 = _ := hv 4 (by decide)
      have q5 : vs 5 = _ := hv 5 (by decide)
      have q6 : vs 6 = _ := hv 6 (by decide)
      have q7 : vs 7 = _ := hv 7 (by decide)
      have q9 : vs 9 = _ := hv 9 (by decide)
      have q10 : vs 10 = _ := hv 10 (by decide)
      have q11 : vs 11 = _ := hv 11 (by decide)
      have q12 : vs 12 = _ := hv 12 (by decide)
      have q13 : vs 13 = _ := hv 13 (by decide)
      have q14 : vs 14 = _ := hv 14 (by decide)
      have q15 : vs 15 = _ := hv 15 (by decide)
      have q16 : vs 16 = _ := hv 16 (by decide)
      have q17 : vs 17 = _ := hv 17 (by decide)
      have q18 : vs 18 = _ := hv 18 (by decide)
      have q20 : vs 20 = _ := hv 20 (by decide)
      have q21 : vs 21 = _ := hv 21 (by decide)
      have q22 : vs 22 = _ := hv 22 (by decide)
      have q23 : vs 23 = _ := hv 23 (by decide)
      have q24 : vs 24 = _ := hv 24 (by decide)
      have q25 : vs 25 = _ := hv 25 (by decide)
      have q26 : vs 26 = _ := hv 26 (by decide)
      have q27 : vs 27 = _ := hv 27 (by decide)
      have q28 : vs 28 = _ := hv 28 (by decide)
      have q29 : vs 29 = _ := hv 29 (by decide)
      have q30 : vs 30 = _ := hv 30 (by decide)
      have q31 : vs 31 = _ := hv 31 (by decide)
      have q32 : vs 32 = _ := hv 32 (by decide)
      have q33 : vs 33 = _ := hv 33 (by decide)
      have q34 : vs 34 = _ := hv 34 (by decide)
      have q35 : vs 35 = _ := hv 35 (by decide)
      have q36 : vs 36 = _ := hv 36 (by decide)
      have q37 : vs 37 = _ := hv 37 (by decide)
      have q38 : vs 38 = _ := hv 38 (by decide)
      have q39 : vs 39 = _ := hv 39 (by decide)
      have q40 : vs 40 = _ := hv 40 (by decide)
      have q41 : vs 41 = _ := hv 41 (by decide)
      have q42 : vs 42 = _ := hv 42 (by decide)
      have q43 : vs 43 = _ := hv 43 (by decide)
      have q44 : vs 44 = _ := hv 44 (by decide)
      have q45 : vs 45 = _ := hv 45 (by decide)
      have q46 : vs 46 = _ := hv 46 (by decide)
      have q47 : vs 47 = _ := hv 47 (by decide)
      have q48 : vs 48 = _ := hv 48 (by decide)
      have q49 : vs 49 = _ := hv 49 (by decide)
      have q50 : vs 50 = _ := hv 50 (by decide)
      have q51 : vs 51 = _ := hv 51 (by decide)
      have q52 : vs 52 = _ := hv 52 (by decide)
      have q53 : vs 53 = _ := hv 53 (by decide)
      have S2 := Lib.hid hS
      simp only [putL, Act.put, Nat.zero_add, Nat.reduceAdd, List.setIfInBounds_toArray, List.set_cons_succ, List.set_cons_zero, q0, q1, q2, q3, q4, q5, q6, q7, q9, q10, q11, q12, q13, q14, q15, q16, q17, q18, q20, q21, q22, q23, q24, q25, q26, q27, q28, q29, q30, q31, q32, q33, q34, q35, q36, q37, q38, q39, q40, q41, q42, q43, q44, q45, q46, q47, q48, q49, q50, q51, q52, q53]
      clear hS hv q0 q1 q2 q3 q4 q5 q6 q7 q9 q10 q11 q12 q13 q14 q15 q16 q17 q18 q20 q21 q22 q23 q24 q25 q26 q27 q28 q29 q30 q31 q32 q33 q34 q35 q36 q37 q38 q39 q40 q41 q42 q43 q44 q45 q46 q47 q48 q49 q50 q51 q52 q53
      have S4 := S2
      clear S2 S3
      go_wp2_with fail
      refine (put24_any (row := 0) (col := 0) _ HT.out (show Objs w0 _ (.grid gu 83 ↑s.cols _ :: _) from (Objs.pick (σ := [_, _, _, _, _, _, _, _, _, _]) (os := os) S4.out [some 3, some 2, some 4, some 5, some 6, some 7, some 8, some 9] (by decide) rfl)) HG.out.c0 HG.out.cm HU.out.1).mono ?_
      rintro e w5 ⟨rfl, hS⟩
      have S5 := Lib.hid hS
      clear hS S4
      go_wp2_with fail
      refine (put24_any (row := 0) (col := 0) _ HT.out (show Objs w0 _ (.grid gm 83 ↑s.cols _ :: _) from S5.out.tail) HG.out.c0 HG.out.cm HG.out.M.1).mono ?_
      rintro e w6 ⟨rfl, hS⟩
      have S6 := Lib.hid hS
      clear hS S5
      go_wp2_with fail
      go_roundw
      case rel => exact ⟨n + 1, by omega, by go_num, alike_close S6.out.tail⟩
      case measure => simp [intOf]; omega
   ·go_wp2_with fail
    go_ret
    refine ⟨rfl, ?_⟩
    have hW := S1.out
    exact Objs.swap (Objs.closeRef (m := mr) (o := ro) (Objs.pick (σ := [_, _, _, _]) (os := os) hW [some 1, some 2, some 3, some 0] (by decide) rfl))
end
end Go.Proofs.YtdndoikgnohkkaaDoor

namespace Go.Proofs.YtdndoikgnohkkaaDoor
open Go.RowKit

theorem entN_good {s : Pr} {rr : Nat} {n : Int} {x : Saved} {q : Pen} (h : s.good rr) (hq : n = 1049 → q.ok = true) : (entN n x q s).good rr := by
 unfold entN
 split
 ·rename_i hn; exact ⟨h.c0, h.cm, h.r0, h.rm, h.M, h.O.wipe (hq hn)⟩
 ·exact ⟨h.c0, h.cm, h.r0, h.rm, h.M, h.O⟩
theorem lvN_good {s : Pr} {rr : Nat} {n : Int} {q : Pen} (h : s.good rr) (hq : n = 1047 → q.ok = true) : (lvN n q s).good rr := by
 unfold lvN
 split
 ·rename_i hn; exact ⟨h.c0, h.cm, h.r0, h.rm, h.M, h.O.wipe (hq hn)⟩
 split
 ·exact ⟨h.c0, h.cm, h.r0, h.rm, h.M, h.O⟩
 ·exact ⟨h.c0, h.cm, h.r0, h.rm, h.M, h.O⟩
def cell24 (L : List Ln) (i j : Nat) : Option Cell := (L[i]?).bind fun l => l.1[j]?
theorem shows_at {w0 w : World} {os : List Ob} {i j cols k g : Nat} {L : List Ln} {x : Cell} (hS : Objs w0 w os) (hk : os[k]? = some (.grid g 83 cols L)) (hc : 0 < cols) (hj : j < cols) (hx : cell24 L i j = some x) :
  Calls Tryd.prog 42 #[.pointer (some ⟨g, 0, none⟩), .int .i64 i, .int .i64 j, .agg (cv x)] w fun e w' => e = .returned (.bool true) ∧ Objs w0 w' os := by
 unfold cell24 at hx
 cases hl : L[i]? with
 | none => rw [hl] at hx; cases hx
 | some l => rw [hl] at hx; exact shows_true hS hk hc hj hl hx
def cA24 : Cell := ⟨97, 0, 0, 0, 1, pen0⟩
def cE24 : Cell := ⟨0, 0, 0, 0, 1, pen0⟩
def sK24 : Saved := ⟨1, 2, false, pen0, false, 0, 0, 0⟩
def k24_0 : Pr := newP 2 3
def k24_1 : Pr := k24_0.setU (putR24 0 0 cA24 k24_0.cols k24_0.U)
def k24_2 : Pr := entN 1049 sK24 pen0 k24_1
def k24_3 : Pr := k24_2.setU (putR24 1 1 cA24 k24_2.cols k24_2.U)
def k24_4 : Pr := lvN 1049 pen0 k24_3
def k24_5 : Pr := entN 47 sK24 pen0 k24_4
def k24_6 : Pr := lvN 1047 pen0 k24_5
def k24_7 : Pr := entN 47 sK24 pen0 k24_6
theorem pen0_ok : pen0.ok = true := by decide +kernel
theorem k24_0_good : k24_0.good 2 := newP_good (by decide) (by decide) (by decide) (by decide)
theorem k24_1_good : k24_1.good 2 := k24_0_good.setU (putR24_k24 k24_0_good.U)
theorem k24_2_good : k24_2.good 2 := entN_good k24_1_good (fun _ => pen0_ok)
theorem k24_3_good : k24_3.good 2 := k24_2_good.setU (putR24_k24 k24_2_good.U)
theorem k24_4_good : k24_4.good 2 := lvN_good k24_3_good (fun _ => pen0_ok)
theorem k24_5_good : k24_5.good 2 := entN_good k24_4_good (fun _ => pen0_ok)
theorem k24_6_good : k24_6.good 2 := lvN_good k24_5_good (fun _ => pen0_ok)
theorem k24_7_good : k24_7.good 2 := entN_good k24_6_good (fun _ => pen0_ok)
section
variable {w0 w : World} {os : List Ob} {p : Nat}
theorem k24_e1 (hT : Tabs w0) (h : Objs w0 w (pairO p k24_0 :: os)) : Calls Tryd.prog 22 #[.pointer (some ⟨p, 0, none⟩), .agg (pw 0 0 cA24)] w fun e w' => e = .returned (.int .i64 0) ∧ Objs w0 w' (pairO p k24_1 :: os) := by
 have := puts_front (row := 0) (col := 0) cA24 hT h k24_0_good
 rw [show putE 0 0 cA24 k24_0.cols 2 = 0 by decide +kernel] at this
 exact this
theorem k24_e3 (hT : Tabs w0) (h : Objs w0 w (pairO p k24_2 :: os)) : Calls Tryd.prog 22 #[.pointer (some ⟨p, 0, none⟩), .agg (pw 1 1 cA24)] w fun e w' => e = .returned (.int .i64 0) ∧ Objs w0 w' (pairO p k24_3 :: os) := by
 have := puts_front (row := 1) (col := 1) cA24 hT h k24_2_good
 rw [show putE 1 1 cA24 k24_2.cols 2 = 0 by decide +kernel] at this
 exact this
theorem k24_e2 (hT : Tabs w0) (h : Objs w0 w (pairO p k24_1 :: os)) : Calls Tryd.prog 9 #[.pointer (some ⟨p, 0, none⟩), .int .i64 1049, .agg (sv sK24), .agg (pv pen0)] w fun e w' => e = .returned (.int .i64 0) ∧ Objs w0 w' (pairO p k24_2 :: os) := Enter_yes 1049 sK24 pen0 hT h k24_1_good (by decide +kernel)
theorem k24_e5 (hT : Tabs w0) (h : Objs w0 w (pairO p k24_4 :: os)) : Calls Tryd.prog 9 #[.pointer (some ⟨p, 0, none⟩), .int .i64 47, .agg (sv sK24), .agg (pv pen0)] w fun e w' => e = .returned (.int .i64 0) ∧ Objs w0 w' (pairO p k24_5 :: os) := Enter_yes 47 sK24 pen0 hT h k24_4_good (by decide +kernel)
theorem k24_e7 (hT : Tabs w0) (h : Objs w0 w (pairO p k24_6 :: os)) : Calls Tryd.prog 9 #[.pointer (some ⟨p, 0, none⟩), .int .i64 47, .agg (sv sK24), .agg (pv pen0)] w fun e w' => e = .returned (.int .i64 0) ∧ Objs w0 w' (pairO p k24_7 :: os) := Enter_yes 47 sK24 pen0 hT h k24_6_good (by decide +kernel)
theorem k24_busy (hT : Tabs w0) (h : Objs w0 w (pairO p k24_3 :: os)) : Calls Tryd.prog 9 #[.pointer (some ⟨p, 0, none⟩), .int .i64 47, .agg (sv sK24), .agg (pv pen0)] w fun e w' => e = .returned (.int .i64 11) ∧ Objs w0 w' (pairO p k24_3 :: os) := by
 have he : entE 47 sK24 pen0 k24_3 = 11 := by decide +kernel
 have := Enter_no 47 sK24 pen0 hT h (by rw [he]; decide)
 rw [he] at this
 exact this
theorem k24_e8 (hT : Tabs w0) (h : Objs w0 w (pairO p k24_7 :: os)) : Calls Tryd.prog 9 #[.pointer (some ⟨p, 0, none⟩), .int .i64 1048, .agg (sv sK24), .agg (pv pen0)] w fun e w' => e = .returned (.int .i64 2) ∧ Objs w0 w' (pairO p k24_7 :: os) := by
 have he : entE 1048 sK24 pen0 k24_7 = 2 := by decide +kernel
 have := Enter_no 1048 sK24 pen0 hT h (by rw [he]; decide)
 rw [he] at this
 exact this
theorem k24_e4 (hT : Tabs w0) (h : Objs w0 w (pairO p k24_3 :: os)) : Calls Tryd.prog 10 #[.pointer (some ⟨p, 0, none⟩), .int .i64 1049, .agg (pv pen0), .agg (sv sK24), .bool true, .int .i64 0] w fun e w' => e = .returned (.bool true) ∧ Objs w0 w' (pairO p k24_4 :: os) :=
 leaves_true h (fun bs W h => front_bs h (fun os1 h => by
  have := Leave_yes 1049 pen0 hT h k24_3_good (by decide +kernel)
  rw [show lvS 1049 k24_3 = some sK24 by decide +kernel] at this
  exact this))
theorem k24_e6 (hT : Tabs w0) (h : Objs w0 w (pairO p k24_5 :: os)) : Calls Tryd.prog 10 #[.pointer (some ⟨p, 0, none⟩), .int .i64 1047, .agg (pv pen0), .agg (sv saved0), .bool false, .int .i64 0] w fun e w' => e = .returned (.bool true) ∧ Objs w0 w' (pairO p k24_6 :: os) :=
 leaves_true h (fun bs W h => front_bs h (fun os1 h => by
  have := Leave_yes 1047 pen0 hT h k24_5_good (by decide +kernel)
  rw [show lvS 1047 k24_5 = none by decide +kernel] at this
  exact this))
theorem k24_e4b (hT : Tabs w0) (h : Objs w0 w (pairO p k24_4 :: os)) : Calls Tryd.prog 10 #[.pointer (some ⟨p, 0, none⟩), .int .i64 47, .agg (pv pen0), .agg (sv saved0), .bool false, .int .i64 8] w fun e w' => e = .returned (.bool true) ∧ Objs w0 w' (pairO p k24_4 :: os) :=
 leaves_true h (fun bs W h => front_bs h (fun os1 h => by
  have he : lvE 47 pen0 k24_4 = 8 := by decide +kernel
  have := Leave_no 47 pen0 hT h (by rw [he]; decide)
  rw [he] at this
  exact this))
end
set_option maxRecDepth 100000 in
set_option maxHeartbeats 16000000 in
theorem l24known_any (w : World) (hT : Tabs w) : Calls Tryd.prog 20 #[] w fun e w' => e = .returned (.bool true) ∧ Below w.heap.size w w' := by
 have HT := Lib.hid hT
 clear hT
 go_enter Tryd.func20, Tryd.ntmps20
 go_wp2_with fail
 refine (pairNew_yes (w0 := w) (os := []) 2 3 (by decide) (by decide) (by decide) (by decide) (objs_start w)).mono ?_
 rintro e w1 ⟨p, rfl, hS⟩
 have S0 := Lib.hid (show Objs w w1 [pairO p k24_0] from hS)
 clear hS
 go_upto_region 3 with (fail)
 refine at_objsC (S0.out.alloc2 (c1 := cv cA24) (t1 := 61) (c2 := cv cE24) (t2 := 61)) (fun W hW => ?_)
 generalize w1.heap.size + 1 = b4 at hW ⊢
 generalize w1.heap.size = b3 at hW ⊢
 have S9 := Lib.hid hW
 clear hW S0
 go_upto_region 4 with (fail)
 refine at_objsC (S9.out.alloc1 (c1 := sv sK24) (t1 := 35)) (fun W2 hW => ?_)
 generalize W.heap.size = b5 at hW ⊢
 have S1 := Lib.hid (show Objs w W2 [pairO p k24_0, .box b5 35 (sv sK24), .box b4 61 (cv cE24), .box b3 61 (cv cA24)] from (Objs.pick (σ := [_, _, _, _]) (os := []) hW [some 3, some 0, some 1, some 2] (by decide) rfl))
 clear hW S9
 refine wp_region_stage (w0 := w) (os := []) (by kernel_rfl) (by kernel_rfl) (by kernel_rfl) [(2, 10, [], fun vs => pairO p k24_1), (2, 17, [], fun vs => pairO p k24_2), (0, 32, [32], fun vs => .grid (blkOf (vs 32)) 83 3 k24_2.U), (1, 39, [39], fun vs => .grid (blkOf (vs 39)) 83 3 k24_2.M)] [[], [], [], [], [], [], [], [], [5], [], [2], [], [], [], [], [3], [], [2], [], [], [], [], [2], [], [], [], [], [2], [], [], [], [], [0, 2], [4], [0], [], [], [], [], [1, 2], [5], [1], [], []] [.none, .none, pairO p k24_0, .box b5 35 (sv sK24), .box b4 61 (cv cE24), .box b3 61 (cv cA24)] (fun opn u => match opn with | 0 => u = .pointer (some ⟨p, 0, none⟩) | 1 => u = .bool false | 2 => u = .bool false | 3 => u = .int .i64 0 | 4 => u = .bool false | 5 => u = .bool false | 6 => u = .bool false | 7 => u = .pointer (some ⟨p, 0, none⟩) | 8 => u = .agg (cv cA24) | 9 => u = .agg (pw 0 0 cA24) | 10 => u = .int .i64 0 | 11 => u = .bool false | 12 => u = .bool false | 13 => u = .bool false | 14 => u = .pointer (some ⟨p, 0, none⟩) | 15 => u = .agg (sv sK24) | 16 => u = .agg (pv pen0) | 17 => u = .int .i64 0 | 18 => u = .bool false | 19 => u = .bool false | 20 => u = .bool false | 21 => u = .pointer (some ⟨p, 0, none⟩) | 22 => u = .bool true | 23 => u = .bool false | 24 => u = .bool false | 25 => u = .bool false | 26 => u = .pointer (some ⟨p, 0, none⟩) | 27 => u = .int .i64 1049 | 28 => u = .bool false | 29 => u = .bool false | 30 => u = .bool false | 31 => u = .pointer (some ⟨p, 0, none⟩) | 32 => ∃ x, u = .pointer (some ⟨x, 0, none⟩) | 33 => u = .agg (cv cE24) | 34 => u = .bool true | 35 => u = .bool false | 36 => u = .bool false | 37 => u = .bool false | 38 => u = .pointer (some ⟨p, 0, none⟩) | 39 => ∃ x, u = .pointer (some ⟨x, 0, none⟩) | 40 => u = .agg (cv cA24) | 41 => u = .bool true | 42 => u = .bool false | 43 => u = .bool false | _ => True) (fun vs => [.grid (blkOf (vs 32)) 83 3 k24_2.U, .grid (blkOf (vs 39)) 83 3 k24_2.M, pairO p k24_2, .box b5 35 (sv sK24), .box b4 61 (cv cE24), .box b3 61 (cv cA24)]) (by kernel_rfl) (fun vs => by rfl) S1.out.pad.pad ?_ ?_
 ·apply sc
  ·intro a w' vs σ hS hl hs hk
   have f1 : a.tmps[1]?.getD undef = .pointer (some ⟨p, 0, none⟩) := sof hk
   exact rp (pt p 0) (by simp [execOp, Act.eval, f1, go_sem]) hl hs hS
  apply sc
  ·intro a w' vs σ hS hl hs hk
   have f15 : a.tmps[15]?.getD undef = .pointer (some ⟨p, 0, none⟩) := svf hk 0
   exact rp (.bool false) (by simp [execOp, Act.eval, f15, go_sem]) hl hs hS
  apply sc
  ·intro a w' vs σ hS hl hs hk
   have f16 : a.tmps[16]?.getD undef = .bool false := svf hk 1
   exact rp (.bool false) (by simp [execOp, Act.eval, f16, go_sem]) hl hs hS
  apply sc
  ·intro a w' vs σ hS hl hs hk
   have f2 : a.tmps[2]?.getD undef = .int .i64 0 := sof hk
   exact rq (.int .i64 0) (wanted_yes rfl rfl rfl (svv hk 2)) (by simp [execOp, Act.eval, f2, go_sem]) hl hs hS
  apply sc
  ·intro a w' vs σ hS hl hs hk
   have f18 : a.tmps[18]?.getD undef = .int .i64 0 := svf hk 3
   exact rq (.bool false) (wanted_yes rfl rfl rfl (svv hk 2)) (by simp [execOp, Act.eval, f18, go_sem]) hl hs hS
  apply sc
  ·intro a w' vs σ hS hl hs hk
   have f17 : a.tmps[17]?.getD undef = .bool false := svf hk 2
   have f19 : a.tmps[19]?.getD undef = .bool false := svf hk 4
   exact rp (.bool false) (by simp [execOp, Act.eval, f17, f19, go_sem]) hl hs hS
  apply sc
  ·intro a w' vs σ hS hl hs hk
   have f20 : a.tmps[20]?.getD undef = .bool false := svf hk 5
   exact rp (.bool false) (by simp [execOp, Act.eval, f20, go_sem]) hl hs hS
  apply sc
  ·intro a w' vs σ hS hl hs hk
   have f1 : a.tmps[1]?.getD undef = .pointer (some ⟨p, 0, none⟩) := sof hk
   exact rq (pt p 0) (wanted_yes rfl rfl rfl (svv hk 6)) (by simp [execOp, Act.eval, f1, go_sem]) hl hs hS
  apply sc
  ·intro a w' vs σ hS hl hs hk
   have f3 : a.tmps[3]?.getD undef = .pointer (some ⟨b3, 0, none⟩) := sof hk
   have hx := (hS.box (sg (hs 5 (by decide)))).cellAt
   exact rq (.agg (cv cA24)) (wanted_yes rfl rfl rfl (svv hk 6)) (by simp [execOp, Act.eval, f3, go_sem, hx]) hl hs hS
  apply sc
  ·intro a w' vs σ hS hl hs hk
   have f23 : a.tmps[23]?.getD undef = .agg (cv cA24) := svf hk 8
   exact rq (.agg (pw 0 0 cA24)) (wanted_yes rfl rfl rfl (svv hk 6)) (by simp [execOp, Act.eval, f23, go_sem]) hl hs hS
  apply sc
  ·intro a w' vs σ hS hl hs hk
   have e22 : a.tmps.getD 22 undef = .pointer (some ⟨p, 0, none⟩) := svv hk 7
   have e24 : a.tmps.getD 24 undef = .agg (pw 0 0 cA24) := svv hk 9
   exact ro_call (f := 22) (wanted_yes rfl rfl rfl (svv hk 6)) rfl (by simp only [List.map_toArray, List.map_cons, List.map_nil, Act.eval, e22, e24] <;> rfl) (fun _ _ => by kernel_rfl) ((front_call hS (sg (hs 2 (by decide))) (fun os1 h => k24_e1 HT.out h)).mono fun e w2 ⟨h1, h2⟩ => ⟨_, h1, sp_set 2 (pairO p k24_1) (by kernel_rfl) (by simp) (by decide) hl hs (by rfl) h2 rfl, trivial⟩)
  apply sc
  ·intro a w' vs σ hS hl hs hk
   have f25 : a.tmps[25]?.getD undef = .int .i64 0 := svf hk 10
   exact rq (.bool false) (wanted_yes rfl rfl rfl (svv hk 6)) (by simp [execOp, Act.eval, f25, go_sem]) hl hs hS
  apply sc
  ·intro a w' vs σ hS hl hs hk
   have f21 : a.tmps[21]?.getD undef = .bool false := svf hk 6
   have f26 : a.tmps[26]?.getD undef = .bool false := svf hk 11
   exact rp (.bool false) (by simp [execOp, Act.eval, f21, f26, go_sem]) hl hs hS
  apply sc
  ·intro a w' vs σ hS hl hs hk
   have f27 : a.tmps[27]?.getD undef = .bool false := svf hk 12
   exact rp (.bool false) (by simp [execOp, Act.eval, f27, go_sem]) hl hs hS
  apply sc
  ·intro a w' vs σ hS hl hs hk
   have f1 : a.tmps[1]?.getD undef = .pointer (some ⟨p, 0, none⟩) := sof hk
   exact rq (pt p 0) (wanted_yes rfl rfl rfl (svv hk 13)) (by simp [execOp, Act.eval, f1, go_sem]) hl hs hS
  apply sc
  ·intro a w' vs σ hS hl hs hk
   have f5 : a.tmps[5]?.getD undef = .pointer (some ⟨b5, 0, none⟩) := sof hk
   have hx := (hS.box (sg (hs 3 (by decide)))).saved.2.2.2.1
   exact rq (.agg (sv sK24)) (wanted_yes rfl rfl rfl (svv hk 13)) (by simp [execOp, Act.eval, f5, go_sem, hx]) hl hs hS
  apply sc
  ·intro a w' vs σ hS hl hs hk
   exact rq (.agg (pv pen0)) (wanted_yes rfl rfl rfl (svv hk 13)) (by simp [execOp, Act.eval, go_sem]) hl hs hS
  apply sc
  ·intro a w' vs σ hS hl hs hk
   have e29 : a.tmps.getD 29 undef = .pointer (some ⟨p, 0, none⟩) := svv hk 14
   have e30 : a.tmps.getD 30 undef = .agg (sv sK24) := svv hk 15
   have e31 : a.tmps.getD 31 undef = .agg (pv pen0) := svv hk 16
   exact ro_call (f := 9) (wanted_yes rfl rfl rfl (svv hk 13)) rfl (by simp only [List.map_toArray, List.map_cons, List.map_nil, Act.eval, e29, e30, e31] <;> rfl) (fun _ _ => by kernel_rfl) ((front_call hS (sg (hs 2 (by decide))) (fun os1 h => k24_e2 HT.out h)).mono fun e w2 ⟨h1, h2⟩ => ⟨_, h1, sp_set 2 (pairO p k24_2) (by kernel_rfl) (by simp) (by decide) hl hs (by rfl) h2 rfl, trivial⟩)
  apply sc
  ·intro a w' vs σ hS hl hs hk
   have f32 : a.tmps[32]?.getD undef = .int .i64 0 := svf hk 17
   exact rq (.bool false) (wanted_yes rfl rfl rfl (svv hk 13)) (by simp [execOp, Act.eval, f32, go_sem]) hl hs hS
  apply sc
  ·intro a w' vs σ hS hl hs hk
   have f28 : a.tmps[28]?.getD undef = .bool false := svf hk 13
   have f33 : a.tmps[33]?.getD undef = .bool false := svf hk 18
   exact rp (.bool false) (by simp [execOp, Act.eval, f28, f33, go_sem]) hl hs hS
  apply sc
  ·intro a w' vs σ hS hl hs hk
   have f34 : a.tmps[34]?.getD undef = .bool false := svf hk 19
   exact rp (.bool false) (by simp [execOp, Act.eval, f34, go_sem]) hl hs hS
  apply sc
  ·intro a w' vs σ hS hl hs hk
   have f1 : a.tmps[1]?.getD undef = .pointer (some ⟨p, 0, none⟩) := sof hk
   exact rq (pt p 0) (wanted_yes rfl rfl rfl (svv hk 20)) (by simp [execOp, Act.eval, f1, go_sem]) hl hs hS
  apply sc
  ·intro a w' vs σ hS hl hs hk
   have e36 : a.tmps.getD 36 undef = .pointer (some ⟨p, 0, none⟩) := svv hk 21
   have hcon := Alternate_any hS (sg (hs 2 (by decide)))
   rw [show decide (¬ k24_2.mode = 0) = true by decide +kernel] at hcon
   exact ro_call (f := 11) (wanted_yes rfl rfl rfl (svv hk 20)) rfl (by simp only [List.map_toArray, List.map_cons, List.map_nil, Act.eval, e36] <;> rfl) (fun _ _ => by kernel_rfl) ((hcon).mono fun e w2 ⟨h1, h2⟩ => ⟨_, h1, sp_same (by kernel_rfl) hl hs h2 rfl, trivial⟩)
  apply sc
  ·intro a w' vs σ hS hl hs hk
   have f37 : a.tmps[37]?.getD undef = .bool true := svf hk 22
   exact rq (.bool false) (wanted_yes rfl rfl rfl (svv hk 20)) (by simp [execOp, Act.eval, f37, go_sem]) hl hs hS
  apply sc
  ·intro a w' vs σ hS hl hs hk
   have f35 : a.tmps[35]?.getD undef = .bool false := svf hk 20
   have f38 : a.tmps[38]?.getD undef = .bool false := svf hk 23
   exact rp (.bool false) (by simp [execOp, Act.eval, f35, f38, go_sem]) hl hs hS
  apply sc
  ·intro a w' vs σ hS hl hs hk
   have f39 : a.tmps[39]?.getD undef = .bool false := svf hk 24
   exact rp (.bool false) (by simp [execOp, Act.eval, f39, go_sem]) hl hs hS
  apply sc
  ·intro a w' vs σ hS hl hs hk
   have f1 : a.tmps[1]?.getD undef = .pointer (some ⟨p, 0, none⟩) := sof hk
   exact rq (pt p 0) (wanted_yes rfl rfl rfl (svv hk 25)) (by simp [execOp, Act.eval, f1, go_sem]) hl hs hS
  apply sc
  ·intro a w' vs σ hS hl hs hk
   have e41 : a.tmps.getD 41 undef = .pointer (some ⟨p, 0, none⟩) := svv hk 26
   have hcon := Mode_any hS (sg (hs 2 (by decide)))
   rw [show k24_2.mode = 1049 by decide +kernel] at hcon
   exact ro_call (f := 12) (wanted_yes rfl rfl rfl (svv hk 25)) rfl (by simp only [List.map_toArray, List.map_cons, List.map_nil, Act.eval, e41] <;> rfl) (fun _ _ => by kernel_rfl) ((hcon).mono fun e w2 ⟨h1, h2⟩ => ⟨_, h1, sp_same (by kernel_rfl) hl hs h2 rfl, trivial⟩)
  apply sc
  ·intro a w' vs σ hS hl hs hk
   have f42 : a.tmps[42]?.getD undef = .int .i64 1049 := svf hk 27
   exact rq (.bool false) (wanted_yes rfl rfl rfl (svv hk 25)) (by simp [execOp, Act.eval, f42, go_sem]) hl hs hS
  apply sc
  ·intro a w' vs σ hS hl hs hk
   have f40 : a.tmps[40]?.getD undef = .bool false := svf hk 25
   have f43 : a.tmps[43]?.getD undef = .bool false := svf hk 28
   exact rp (.bool false) (by simp [execOp, Act.eval, f40, f43, go_sem]) hl hs hS
  apply sc
  ·intro a w' vs σ hS hl hs hk
   have f44 : a.tmps[44]?.getD undef = .bool false := svf hk 29
   exact rp (.bool false) (by simp [execOp, Act.eval, f44, go_sem]) hl hs hS
  apply sc
  ·intro a w' vs σ hS hl hs hk
   have f1 : a.tmps[1]?.getD undef = .pointer (some ⟨p, 0, none⟩) := sof hk
   exact rq (pt p 0) (wanted_yes rfl rfl rfl (svv hk 30)) (by simp [execOp, Act.eval, f1, go_sem]) hl hs hS
  apply sc
  ·intro a w' vs σ hS hl hs hk
   have e46 : a.tmps.getD 46 undef = .pointer (some ⟨p, 0, none⟩) := svv hk 31
   have h0 : σ[0]? = some .none := hs 0 (by decide)
   exact ro_call (f := 13) (wanted_yes rfl rfl rfl (svv hk 30)) rfl (by simp only [List.map_toArray, List.map_cons, List.map_nil, Act.eval, e46] <;> rfl) (fun _ _ => by kernel_rfl) ((Grid_at hS (sg (hs 2 (by decide))) k24_2_good).mono fun e w2 ⟨x, h1, h2⟩ => ⟨_, h1, sp_set 0 (.grid x 83 3 k24_2.U) (by kernel_rfl) (by simp) (by decide) hl hs (by rfl) (h2.place (sg h0)) ⟨x, rfl⟩, trivial⟩)
  apply sc
  ·intro a w' vs σ hS hl hs hk
   have f4 : a.tmps[4]?.getD undef = .pointer (some ⟨b4, 0, none⟩) := sof hk
   have hx := (hS.box (sg (hs 4 (by decide)))).cellAt
   exact rq (.agg (cv cE24)) (wanted_yes rfl rfl rfl (svv hk 30)) (by simp [execOp, Act.eval, f4, go_sem, hx]) hl hs hS
  apply sc
  ·intro a w' vs σ hS hl hs hk
   have e47 : a.tmps.getD 47 undef = vs 32 := sk_val hk 32 (by kernel_rfl) rfl rfl
   have p47 : (fun u : Value => ∃ x, u = .pointer (some ⟨x, 0, none⟩)) (vs 32) := (hk.1 32 (by kernel_rfl)).1
   have e48 : a.tmps.getD 48 undef = .agg (cv cE24) := svv hk 33
   obtain ⟨g9, q9⟩ := p47
   rw [q9] at e47
   have h0 : σ[0]? = some (.grid (blkOf (vs 32)) 83 3 k24_2.U) := hs 0 (by decide)
   rw [q9, show blkOf (.pointer (some ⟨g9, 0, none⟩)) = g9 from rfl] at h0
   exact ro_call (f := 42) (wanted_yes rfl rfl rfl (svv hk 30)) rfl (by simp only [List.map_toArray, List.map_cons, List.map_nil, Act.eval, e47, e48] <;> rfl) (fun _ _ => by kernel_rfl) ((shows_at (i := 0) (j := 0) (x := cE24) hS (sg h0) (by decide) (by decide) (by decide +kernel)).mono fun e w2 ⟨h1, h2⟩ => ⟨_, h1, sp_same (by kernel_rfl) hl hs h2 rfl, trivial⟩)
  apply sc
  ·intro a w' vs σ hS hl hs hk
   have f49 : a.tmps[49]?.getD undef = .bool true := svf hk 34
   exact rq (.bool false) (wanted_yes rfl rfl rfl (svv hk 30)) (by simp [execOp, Act.eval, f49, go_sem]) hl hs hS
  apply sc
  ·intro a w' vs σ hS hl hs hk
   have f45 : a.tmps[45]?.getD undef = .bool false := svf hk 30
   have f50 : a.tmps[50]?.getD undef = .bool false := svf hk 35
   exact rp (.bool false) (by simp [execOp, Act.eval, f45, f50, go_sem]) hl hs hS
  apply sc
  ·intro a w' vs σ hS hl hs hk
   have f51 : a.tmps[51]?.getD undef = .bool false := svf hk 36
   exact rp (.bool false) (by simp [execOp, Act.eval, f51, go_sem]) hl hs hS
  apply sc
  ·intro a w' vs σ hS hl hs hk
   have f1 : a.tmps[1]?.getD undef = .pointer (some ⟨p, 0, none⟩) := sof hk
   exact rq (pt p 0) (wanted_yes rfl rfl rfl (svv hk 37)) (by simp [execOp, Act.eval, f1, go_sem]) hl hs hS
  apply sc
  ·intro a w' vs σ hS hl hs hk
   have e53 : a.tmps.getD 53 undef = .pointer (some ⟨p, 0, none⟩) := svv hk 38
   have h0 : σ[1]? = some .none := hs 1 (by decide)
   exact ro_call (f := 14) (wanted_yes rfl rfl rfl (svv hk 37)) rfl (by simp only [List.map_toArray, List.map_cons, List.map_nil, Act.eval, e53] <;> rfl) (fun _ _ => by kernel_rfl) ((Main_at hS (sg (hs 2 (by decide))) k24_2_good).mono fun e w2 ⟨x, h1, h2⟩ => ⟨_, h1, sp_set 1 (.grid x 83 3 k24_2.M) (by kernel_rfl) (by simp) (by decide) hl hs (by rfl) (h2.place (sg h0)) ⟨x, rfl⟩, trivial⟩)
  apply sc
  ·intro a w' vs σ hS hl hs hk
   have f3 : a.tmps[3]?.getD undef = .pointer (some ⟨b3, 0, none⟩) := sof hk
   have hx := (hS.box (sg (hs 5 (by decide)))).cellAt
   exact rq (.agg (cv cA24)) (wanted_yes rfl rfl rfl (svv hk 37)) (by simp [execOp, Act.eval, f3, go_sem, hx]) hl hs hS
  apply sc
  ·intro a w' vs σ hS hl hs hk
   have e54 : a.tmps.getD 54 undef = vs 39 := sk_val hk 39 (by kernel_rfl) rfl rfl
   have p54 : (fun u : Value => ∃ x, u = .pointer (some ⟨x, 0, none⟩)) (vs 39) := (hk.1 39 (by kernel_rfl)).1
   have e55 : a.tmps.getD 55 undef = .agg (cv cA24) := svv hk 40
   obtain ⟨g9, q9⟩ := p54
   rw [q9] at e54
   have h0 : σ[1]? = some (.grid (blkOf (vs 39)) 83 3 k24_2.M) := hs 1 (by decide)
   rw [q9, show blkOf (.pointer (some ⟨g9, 0, none⟩)) = g9 from rfl] at h0
   exact ro_call (f := 42) (wanted_yes rfl rfl rfl (svv hk 37)) rfl (by simp only [List.map_toArray, List.map_cons, List.map_nil, Act.eval, e54, e55] <;> rfl) (fun _ _ => by kernel_rfl) ((shows_at (i := 0) (j := 0) (x := cA24) hS (sg h0) (by decide) (by decide) (by decide +kernel)).mono fun e w2 ⟨h1, h2⟩ => ⟨_, h1, sp_same (by kernel_rfl) hl hs h2 rfl, trivial⟩)
  apply sc
  ·intro a w' vs σ hS hl hs hk
   have f56 : a.tmps[56]?.getD undef = .bool true := svf hk 41
   exact rq (.bool false) (wanted_yes rfl rfl rfl (svv hk 37)) (by simp [execOp, Act.eval, f56, go_sem]) hl hs hS
  apply sc
  ·intro a w' vs σ hS hl hs hk
   have f52 : a.tmps[52]?.getD undef = .bool false := svf hk 37
   have f57 : a.tmps[57]?.getD undef = .bool false := svf hk 42
   exact rp (.bool false) (by simp [execOp, Act.eval, f52, f57, go_sem]) hl hs hS
  exact SSteps.nil
 ·intro vs w' hS hv
  have q0 : vs 0 = _ := hv 0 (by decide)
  have q1 : vs 1 = _ := hv 1 (by decide)
  have q2 : vs 2 = _ := hv 2 (by decide)
  have q3 : vs 3 = _ := hv 3 (by decide)
  have q4 : vs 4 = _ := hv 4 (by decide)
  have q5 : vs 5 = _ := hv 5 (by decide)
  have q6 : vs 6 = _ := hv 6 (by decide)
  have q7 : vs 7 = _ := hv 7 (by decide)
  have q8 : vs 8 = _ := hv 8 (by decide)
  have q9 : vs 9 = _ := hv 9 (by decide)
  have q10 : vs 10 = _ := hv 10 (by decide)
  have q11 : vs 11 = _ := hv 11 (by decide)
  have q12 : vs 12 = _ := hv 12 (by decide)
  have q13 : vs 13 = _ := hv 13 (by decide)
  have q14 : vs 14 = _ := hv 14 (by decide)
  have q15 : vs 15 = _ := hv 15 (by decide)
  have q16 : vs 16 = _ := hv 16 (by decide)
  have q17 : vs 17 = _ := hv 17 (by decide)
  have q18 : vs 18 = _ := hv 18 (by decide)
  have q19 : vs 19 = _ := hv 19 (by decide)
  have q20 : vs 20 = _ := hv 20 (by decide)
  have q21 : vs 21 = _ := hv 21 (by decide)
  have q22 : vs 22 = _ := hv 22 (by decide)
  have q23 : vs 23 = _ := hv 23 (by decide)
  have q24 : vs 24 = _ := hv 24 (by decide)
  have q25 : vs 25 = _ := hv 25 (by decide)
  have q26 : vs 26 = _ := hv 26 (by decide)
  have q27 : vs 27 = _ := hv 27 (by decide)
  have q28 : vs 28 = _ := hv 28 (by decide)
  have q29 : vs 29 = _ := hv 29 (by decide)
  have q30 : vs 30 = _ := hv 30 (by decide)
  have q31 : vs 31 = _ := hv 31 (by decide)
  have q33 : vs 33 = _ := hv 33 (by decide)
  have q34 : vs 34 = _ := hv 34 (by decide)
  have q35 : vs 35 = _ := hv 35 (by decide)
  have q36 : vs 36 = _ := hv 36 (by decide)
  have q37 : vs 37 = _ := hv 37 (by decide)
  have q38 : vs 38 = _ := hv 38 (by decide)
  have q40 : vs 40 = _ := hv 40 (by decide)
  have q41 : vs 41 = _ := hv 41 (by decide)
  have q42 : vs 42 = _ := hv 42 (by decide)
  have q43 : vs 43 = _ := hv 43 (by decide)
  have S2 := Lib.hid hS
  simp only [putL, Act.put, Nat.zero_add, Nat.reduceAdd, List.setIfInBounds_toArray, List.set_cons_succ, List.set_cons_zero, q0, q1, q2, q3, q4, q5, q6, q7, q8, q9, q10, q11, q12, q13, q14, q15, q16, q17, q18, q19, q20, q21, q22, q23, q24, q25, q26, q27, q28, q29, q30, q31, q33, q34, q35, q36, q37, q38, q40, q41, q42, q43]
  clear hS hv q0 q1 q2 q3 q4 q5 q6 q7 q8 q9 q10 q11 q12 q13 q14 q15 q16 q17 q18 q19 q20 q21 q22 q23 q24 q25 q26 q27 q28 q29 q30 q31 q33 q34 q35 q36 q37 q38 q40 q41 q42 q43
  have S1_ := Lib.hid (show Objs w _ [pairO p k24_2, .box b5 35 (sv sK24), .box b4 61 (cv cE24), .box b3 61 (cv cA24)] from S2.out.tail.tail)
  clear S1 S2
  have S1 := S1_
  clear S1_
  go_upto_region 6 with (fail)
  refine wp_region_stage (w0 := w) (os := []) (by kernel_rfl) (by kernel_rfl) (by kernel_rfl) [(2, 3, [], fun vs => pairO p k24_3), (2, 9, [], fun vs => pairO p k24_3), (2, 16, [], fun vs => pairO p k24_4), (0, 21, [21], fun vs => .grid (blkOf (vs 21)) 83 3 k24_4.U), (1, 28, [28], fun vs => .grid (blkOf (vs 28)) 83 3 k24_4.U), (2, 37, [], fun vs => pairO p k24_4)] [[], [5], [], [2], [], [], [], [3], [], [2], [], [], [], [], [], [3], [2], [], [], [], [], [0, 2], [5], [0], [], [], [], [], [1, 2], [4], [1], [], [], [], [], [], [], [2], [], []] [.none, .none, pairO p k24_2, .box b5 35 (sv sK24), .box b4 61 (cv cE24), .box b3 61 (cv cA24)] (fun opn u => match opn with | 0 => u = .pointer (some ⟨p, 0, none⟩) | 1 => u = .agg (cv cA24) | 2 => u = .agg (pw 1 1 cA24) | 3 => u = .int .i64 0 | 4 => u = .bool false | 5 => u = .bool false | 6 => u = .pointer (some ⟨p, 0, none⟩) | 7 => u = .agg (sv sK24) | 8 => u = .agg (pv pen0) | 9 => u = .int .i64 11 | 10 => u = .bool false | 11 => u = .bool false | 12 => u = .bool false | 13 => u = .pointer (some ⟨p, 0, none⟩) | 14 => u = .agg (pv pen0) | 15 => u = .agg (sv sK24) | 16 => u = .bool true | 17 => u = .bool false | 18 => u = .bool false | 19 => u = .bool false | 20 => u = .pointer (some ⟨p, 0, none⟩) | 21 => ∃ x, u = .pointer (some ⟨x, 0, none⟩) | 22 => u = .agg (cv cA24) | 23 => u = .bool true | 24 => u = .bool false | 25 => u = .bool false | 26 => u = .bool false | 27 => u = .pointer (some ⟨p, 0, none⟩) | 28 => ∃ x, u = .pointer (some ⟨x, 0, none⟩) | 29 => u = .agg (cv cE24) | 30 => u = .bool true | 31 => u = .bool false | 32 => u = .bool false | 33 => u = .bool false | 34 => u = .pointer (some ⟨p, 0, none⟩) | 35 => u = .agg (pv pen0) | 36 => u = .agg (sv saved0) | 37 => u = .bool true | 38 => u = .bool false | 39 => u = .bool false | _ => True) (fun vs => [.grid (blkOf (vs 21)) 83 3 k24_4.U, .grid (blkOf (vs 28)) 83 3 k24_4.U, pairO p k24_4, .box b5 35 (sv sK24), .box b4 61 (cv cE24), .box b3 61 (cv cA24)]) (by kernel_rfl) (fun vs => by rfl) S1.out.pad.pad ?_ ?_
  ·apply sc
   ·intro a w' vs σ hS hl hs hk
    have f1 : a.tmps[1]?.getD undef = .pointer (some ⟨p, 0, none⟩) := sof hk
    exact rp (pt p 0) (by simp [execOp, Act.eval, f1, go_sem]) hl hs hS
   apply sc
   ·intro a w' vs σ hS hl hs hk
    have f3 : a.tmps[3]?.getD undef = .pointer (some ⟨b3, 0, none⟩) := sof hk
    have hx := (hS.box (sg (hs 5 (by decide)))).cellAt
    exact rp (.agg (cv cA24)) (by simp [execOp, Act.eval, f3, go_sem, hx]) hl hs hS
   apply sc
   ·intro a w' vs σ hS hl hs hk
    have f60 : a.tmps[60]?.getD undef = .agg (cv cA24) := svf hk 1
    exact rp (.agg (pw 1 1 cA24)) (by simp [execOp, Act.eval, f60, go_sem]) hl hs hS
   apply sc
   ·intro a w' vs σ hS hl hs hk
    have e59 : a.tmps.getD 59 undef = .pointer (some ⟨p, 0, none⟩) := svv hk 0
    have e61 : a.tmps.getD 61 undef = .agg (pw 1 1 cA24) := svv hk 2
    exact ro_call (f := 22) (wanted_none rfl) rfl (by simp only [List.map_toArray, List.map_cons, List.map_nil, Act.eval, e59, e61] <;> rfl) (fun _ _ => by kernel_rfl) ((front_call hS (sg (hs 2 (by decide))) (fun os1 h => k24_e3 HT.out h)).mono fun e w2 ⟨h1, h2⟩ => ⟨_, h1, sp_set 2 (pairO p k24_3) (by kernel_rfl) (by simp) (by decide) hl hs (by rfl) h2 rfl, trivial⟩)
   apply sc
   ·intro a w' vs σ hS hl hs hk
    have f62 : a.tmps[62]?.getD undef = .int .i64 0 := svf hk 3
    exact rp (.bool false) (by simp [execOp, Act.eval, f62, go_sem]) hl hs hS
   apply sc
   ·intro a w' vs σ hS hl hs hk
    have f63 : a.tmps[63]?.getD undef = .bool false := svf hk 4
    exact rp (.bool false) (by simp [execOp, Act.eval, f63, go_sem]) hl hs hS
   apply sc
   ·intro a w' vs σ hS hl hs hk
    have f1 : a.tmps[1]?.getD undef = .pointer (some ⟨p, 0, none⟩) := sof hk
    exact rq (pt p 0) (wanted_yes rfl rfl rfl (svv hk 5)) (by simp [execOp, Act.eval, f1, go_sem]) hl hs hS
   apply sc
   ·intro a w' vs σ hS hl hs hk
    have f5 : a.tmps[5]?.getD undef = .pointer (some ⟨b5, 0, none⟩) := sof hk
    have hx := (hS.box (sg (hs 3 (by decide)))).saved.2.2.2.1
    exact rq (.agg (sv sK24)) (wanted_yes rfl rfl rfl (svv hk 5)) (by simp [execOp, Act.eval, f5, go_sem, hx]) hl hs hS
   apply sc
   ·intro a w' vs σ hS hl hs hk
    exact rq (.agg (pv pen0)) (wanted_yes rfl rfl rfl (svv hk 5)) (by simp [execOp, Act.eval, go_sem]) hl hs hS
   apply sc
   ·intro a w' vs σ hS hl hs hk
    have e65 : a.tmps.getD 65 undef = .pointer (some ⟨p, 0, none⟩) := svv hk 6
    have e66 : a.tmps.getD 66 undef = .agg (sv sK24) := svv hk 7
    have e67 : a.tmps.getD 67 undef = .agg (pv pen0) := svv hk 8
    exact ro_call (f := 9) (wanted_yes rfl rfl rfl (svv hk 5)) rfl (by simp only [List.map_toArray, List.map_cons, List.map_nil, Act.eval, e65, e66, e67] <;> rfl) (fun _ _ => by kernel_rfl) ((front_call hS (sg (hs 2 (by decide))) (fun os1 h => k24_busy HT.out h)).mono fun e w2 ⟨h1, h2⟩ => ⟨_, h1, sp_set 2 (pairO p k24_3) (by kernel_rfl) (by simp) (by decide) hl hs (by rfl) h2 rfl, trivial⟩)
   apply sc
   ·intro a w' vs σ hS hl hs hk
    have f68 : a.tmps[68]?.getD undef = .int .i64 11 := svf hk 9
    exact rq (.bool false) (wanted_yes rfl rfl rfl (svv hk 5)) (by simp [execOp, Act.eval, f68, go_sem]) hl hs hS
   apply sc
   ·intro a w' vs σ hS hl hs hk
    have f64 : a.tmps[64]?.getD undef = .bool false := svf hk 5
    have f69 : a.tmps[69]?.getD undef = .bool false := svf hk 10
    exact rp (.bool false) (by simp [execOp, Act.eval, f64, f69, go_sem]) hl hs hS
   apply sc
   ·intro a w' vs σ hS hl hs hk
    have f70 : a.tmps[70]?.getD undef = .bool false := svf hk 11
    exact rp (.bool false) (by simp [execOp, Act.eval, f70, go_sem]) hl hs hS
   apply sc
   ·intro a w' vs σ hS hl hs hk
    have f1 : a.tmps[1]?.getD undef = .pointer (some ⟨p, 0, none⟩) := sof hk
    exact rq (pt p 0) (wanted_yes rfl rfl rfl (svv hk 12)) (by simp [execOp, Act.eval, f1, go_sem]) hl hs hS
   apply sc
   ·intro a w' vs σ hS hl hs hk
    exact rq (.agg (pv pen0)) (wanted_yes rfl rfl rfl (svv hk 12)) (by simp [execOp, Act.eval, go_sem]) hl hs hS
   apply sc
   ·intro a w' vs σ hS hl hs hk
    have f5 : a.tmps[5]?.getD undef = .pointer (some ⟨b5, 0, none⟩) := sof hk
    have hx := (hS.box (sg (hs 3 (by decide)))).saved.2.2.2.1
    exact rq (.agg (sv sK24)) (wanted_yes rfl rfl rfl (svv hk 12)) (by simp [execOp, Act.eval, f5, go_sem, hx]) hl hs hS
   apply sc
   ·intro a w' vs σ hS hl hs hk
    have e72 : a.tmps.getD 72 undef = .pointer (some ⟨p, 0, none⟩) := svv hk 13
    have e73 : a.tmps.getD 73 undef = .agg (pv pen0) := svv hk 14
    have e74 : a.tmps.getD 74 undef = .agg (sv sK24) := svv hk 15
    exact ro_call (f := 10) (wanted_yes rfl rfl rfl (svv hk 12)) rfl (by simp only [List.map_toArray, List.map_cons, List.map_nil, Act.eval, e72, e73, e74] <;> rfl) (fun _ _ => by kernel_rfl) ((front_call hS (sg (hs 2 (by decide))) (fun os1 h => k24_e4 HT.out h)).mono fun e w2 ⟨h1, h2⟩ => ⟨_, h1, sp_set 2 (pairO p k24_4) (by kernel_rfl) (by simp) (by decide) hl hs (by rfl) h2 rfl, trivial⟩)
   apply sc
   ·intro a w' vs σ hS hl hs hk
    have f75 : a.tmps[75]?.getD undef = .bool true := svf hk 16
    exact rq (.bool false) (wanted_yes rfl rfl rfl (svv hk 12)) (by simp [execOp, Act.eval, f75, go_sem]) hl hs hS
   apply sc
   ·intro a w' vs σ hS hl hs hk
    have f71 : a.tmps[71]?.getD undef = .bool false := svf hk 12
    have f76 : a.tmps[76]?.getD undef = .bool false := svf hk 17
    exact rp (.bool false) (by simp [execOp, Act.eval, f71, f76, go_sem]) hl hs hS
   apply sc
   ·intro a w' vs σ hS hl hs hk
    have f77 : a.tmps[77]?.getD undef = .bool false := svf hk 18
    exact rp (.bool false) (by simp [execOp, Act.eval, f77, go_sem]) hl hs hS
   apply sc
   ·intro a w' vs σ hS hl hs hk
    have f1 : a.tmps[1]?.getD undef = .pointer (some ⟨p, 0, none⟩) := sof hk
    exact rq (pt p 0) (wanted_yes rfl rfl rfl (svv hk 19)) (by simp [execOp, Act.eval, f1, go_sem]) hl hs hS
   apply sc
   ·intro a w' vs σ hS hl hs hk
    have e79 : a.tmps.getD 79 undef = .pointer (some ⟨p, 0, none⟩) := svv hk 20
    have h0 : σ[0]? = some .none := hs 0 (by decide)
    exact ro_call (f := 13) (wanted_yes rfl rfl rfl (svv hk 19)) rfl (by simp only [List.map_toArray, List.map_cons, List.map_nil, Act.eval, e79] <;> rfl) (fun _ _ => by kernel_rfl) ((Grid_at hS (sg (hs 2 (by decide))) k24_4_good).mono fun e w2 ⟨x, h1, h2⟩ => ⟨_, h1, sp_set 0 (.grid x 83 3 k24_4.U) (by kernel_rfl) (by simp) (by decide) hl hs (by rfl) (h2.place (sg h0)) ⟨x, rfl⟩, trivial⟩)
   apply sc
   ·intro a w' vs σ hS hl hs hk
    have f3 : a.tmps[3]?.getD undef = .pointer (some ⟨b3, 0, none⟩) := sof hk
    have hx := (hS.box (sg (hs 5 (by decide)))).cellAt
    exact rq (.agg (cv cA24)) (wanted_yes rfl rfl rfl (svv hk 19)) (by simp [execOp, Act.eval, f3, go_sem, hx]) hl hs hS
   apply sc
   ·intro a w' vs σ hS hl hs hk
    have e80 : a.tmps.getD 80 undef = vs 21 := sk_val hk 21 (by kernel_rfl) rfl rfl
    have p80 : (fun u : Value => ∃ x, u = .pointer (some ⟨x, 0, none⟩)) (vs 21) := (hk.1 21 (by kernel_rfl)).1
    have e81 : a.tmps.getD 81 undef = .agg (cv cA24) := svv hk 22
    obtain ⟨g9, q9⟩ := p80
    rw [q9] at e80
    have h0 : σ[0]? = some (.grid (blkOf (vs 21)) 83 3 k24_4.U) := hs 0 (by decide)
    rw [q9, show blkOf (.pointer (some ⟨g9, 0, none⟩)) = g9 from rfl] at h0
    exact ro_call (f := 42) (wanted_yes rfl rfl rfl (svv hk 19)) rfl (by simp only [List.map_toArray, List.map_cons, List.map_nil, Act.eval, e80, e81] <;> rfl) (fun _ _ => by kernel_rfl) ((shows_at (i := 0) (j := 0) (x := cA24) hS (sg h0) (by decide) (by decide) (by decide +kernel)).mono fun e w2 ⟨h1, h2⟩ => ⟨_, h1, sp_same (by kernel_rfl) hl hs h2 rfl, trivial⟩)
   apply sc
   ·intro a w' vs σ hS hl hs hk
    have f82 : a.tmps[82]?.getD undef = .bool true := svf hk 23
    exact rq (.bool false) (wanted_yes rfl rfl rfl (svv hk 19)) (by simp [execOp, Act.eval, f82, go_sem]) hl hs hS
   apply sc
   ·intro a w' vs σ hS hl hs hk
    have f78 : a.tmps[78]?.getD undef = .bool false := svf hk 19
    have f83 : a.tmps[83]?.getD undef = .bool false := svf hk 24
    exact rp (.bool false) (by simp [execOp, Act.eval, f78, f83, go_sem]) hl hs hS
   apply sc
   ·intro a w' vs σ hS hl hs hk
    have f84 : a.tmps[84]?.getD undef = .bool false := svf hk 25
    exact rp (.bool false) (by simp [execOp, Act.eval, f84, go_sem]) hl hs hS
   apply sc
   ·intro a w' vs σ hS hl hs hk
    have f1 : a.tmps[1]?.getD undef = .pointer (some ⟨p, 0, none⟩) := sof hk
    exact rq (pt p 0) (wanted_yes rfl rfl rfl (svv hk 26)) (by simp [execOp, Act.eval, f1, go_sem]) hl hs hS
   apply sc
   ·intro a w' vs σ hS hl hs hk
    have e86 : a.tmps.getD 86 undef = .pointer (some ⟨p, 0, none⟩) := svv hk 27
    have h0 : σ[1]? = some .none := hs 1 (by decide)
    exact ro_call (f := 13) (wanted_yes rfl rfl rfl (svv hk 26)) rfl (by simp only [List.map_toArray, List.map_cons, List.map_nil, Act.eval, e86] <;> rfl) (fun _ _ => by kernel_rfl) ((Grid_at hS (sg (hs 2 (by decide))) k24_4_good).mono fun e w2 ⟨x, h1, h2⟩ => ⟨_, h1, sp_set 1 (.grid x 83 3 k24_4.U) (by kernel_rfl) (by simp) (by decide) hl hs (by rfl) (h2.place (sg h0)) ⟨x, rfl⟩, trivial⟩)
   apply sc
   ·intro a w' vs σ hS hl hs hk
    have f4 : a.tmps[4]?.getD undef = .pointer (some ⟨b4, 0, none⟩) := sof hk
    have hx := (hS.box (sg (hs 4 (by decide)))).cellAt
    exact rq (.agg (cv cE24)) (wanted_yes rfl rfl rfl (svv hk 26)) (by simp [execOp, Act.eval, f4, go_sem, hx]) hl hs hS
   apply sc
   ·intro a w' vs σ hS hl hs hk
    have e87 : a.tmps.getD 87 undef = vs 28 := sk_val hk 28 (by kernel_rfl) rfl rfl
    have p87 : (fun u : Value => ∃ x, u = .pointer (some ⟨x, 0, none⟩)) (vs 28) := (hk.1 28 (by kernel_rfl)).1
    have e88 : a.tmps.getD 88 undef = .agg (cv cE24) := svv hk 29
    obtain ⟨g9, q9⟩ := p87
    rw [q9] at e87
    have h0 : σ[1]? = some (.grid (blkOf (vs 28)) 83 3 k24_4.U) := hs 1 (by decide)
    rw [q9, show blkOf (.pointer (some ⟨g9, 0, none⟩)) = g9 from rfl] at h0
    exact ro_call (f := 42) (wanted_yes rfl rfl rfl (svv hk 26)) rfl (by simp only [List.map_toArray, List.map_cons, List.map_nil, Act.eval, e87, e88] <;> rfl) (fun _ _ => by kernel_rfl) ((shows_at (i := 1) (j := 1) (x := cE24) hS (sg h0) (by decide) (by decide) (by decide +kernel)).mono fun e w2 ⟨h1, h2⟩ => ⟨_, h1, sp_same (by kernel_rfl) hl hs h2 rfl, trivial⟩)
   apply sc
   ·intro a w' vs σ hS hl hs hk
    have f89 : a.tmps[89]?.getD undef = .bool true := svf hk 30
    exact rq (.bool false) (wanted_yes rfl rfl rfl (svv hk 26)) (by simp [execOp, Act.eval, f89, go_sem]) hl hs hS
   apply sc
   ·intro a w' vs σ hS hl hs hk
    have f85 : a.tmps[85]?.getD undef = .bool false := svf hk 26
    have f90 : a.tmps[90]?.getD undef = .bool false := svf hk 31
    exact rp (.bool false) (by simp [execOp, Act.eval, f85, f90, go_sem]) hl hs hS
   apply sc
   ·intro a w' vs σ hS hl hs hk
    have f91 : a.tmps[91]?.getD undef = .bool false := svf hk 32
    exact rp (.bool false) (by simp [execOp, Act.eval, f91, go_sem]) hl hs hS
   apply sc
   ·intro a w' vs σ hS hl hs hk
    have f1 : a.tmps[1]?.getD undef = .pointer (some ⟨p, 0, none⟩) := sof hk
    exact rq (pt p 0) (wanted_yes rfl rfl rfl (svv hk 33)) (by simp [execOp, Act.eval, f1, go_sem]) hl hs hS
   apply sc
   ·intro a w' vs σ hS hl hs hk
    exact rq (.agg (pv pen0)) (wanted_yes rfl rfl rfl (svv hk 33)) (by simp [execOp, Act.eval, go_sem]) hl hs hS
   apply sc
   ·intro a w' vs σ hS hl hs hk
    exact rq (.agg (sv saved0)) (wanted_yes rfl rfl rfl (svv hk 33)) (by simp [execOp, Act.eval, go_sem]) hl hs hS
   apply sc
   ·intro a w' vs σ hS hl hs hk
    have e93 : a.tmps.getD 93 undef = .pointer (some ⟨p, 0, none⟩) := svv hk 34
    have e94 : a.tmps.getD 94 undef = .agg (pv pen0) := svv hk 35
    have e95 : a.tmps.getD 95 undef = .agg (sv saved0) := svv hk 36
    exact ro_call (f := 10) (wanted_yes rfl rfl rfl (svv hk 33)) rfl (by simp only [List.map_toArray, List.map_cons, List.map_nil, Act.eval, e93, e94, e95] <;> rfl) (fun _ _ => by kernel_rfl) ((front_call hS (sg (hs 2 (by decide))) (fun os1 h => k24_e4b HT.out h)).mono fun e w2 ⟨h1, h2⟩ => ⟨_, h1, sp_set 2 (pairO p k24_4) (by kernel_rfl) (by simp) (by decide) hl hs (by rfl) h2 rfl, trivial⟩)
   apply sc
   ·intro a w' vs σ hS hl hs hk
    have f96 : a.tmps[96]?.getD undef = .bool true := svf hk 37
    exact rq (.bool false) (wanted_yes rfl rfl rfl (svv hk 33)) (by simp [execOp, Act.eval, f96, go_sem]) hl hs hS
   apply sc
   ·intro a w' vs σ hS hl hs hk
    have f92 : a.tmps[92]?.getD undef = .bool false := svf hk 33
    have f97 : a.tmps[97]?.getD undef = .bool false := svf hk 38
    exact rp (.bool false) (by simp [execOp, Act.eval, f92, f97, go_sem]) hl hs hS
   exact SSteps.nil
  ·intro vs w' hS hv
   have q0 : vs 0 = _ := hv 0 (by decide)
   have q1 : vs 1 = _ := hv 1 (by decide)
   have q2 : vs 2 = _ := hv 2 (by decide)
   have q3 : vs 3 = _ := hv 3 (by decide)
   have q4 : vs 4 = _ := hv 4 (by decide)
   have q5 : vs 5 = _ := hv 5 (by decide)
   have q6 : vs 6 = _ := hv 6 (by decide)
   have q7 : vs 7 = _ := hv 7 (by decide)
   have q8 : vs 8 = _ := hv 8 (by decide)
   have q9 : vs 9 = _ := hv 9 (by decide)
   have q10 : vs 10 = _ := hv 10 (by decide)
   have q11 : vs 11 = _ := hv 11 (by decide)
   have q12 : vs 12 = _ := hv 12 (by decide)
   have q13 : vs 13 = _ := hv 13 (by decide)
   have q14 : vs 14 = _ := hv 14 (by decide)
   have q15 : vs 15 = _ := hv 15 (by decide)
   have q16 : vs 16 = _ := hv 16 (by decide)
   have q17 : vs 17 = _ := hv 17 (by decide)
   have q18 : vs 18 = _ := hv 18 (by decide)
   have q19 : vs 19 = _ := hv 19 (by decide)
   have q20 : vs 20 = _ := hv 20 (by decide)
   have q22 : vs 22 = _ := hv 22 (by decide)
   have q23 : vs 23 = _ := hv 23 (by decide)
   have q24 : vs 24 = _ := hv 24 (by decide)
   have q25 : vs 25 = _ := hv 25 (by decide)
   have q26 : vs 26 = _ := hv 26 (by decide)
   have q27 : vs 27 = _ := hv 27 (by decide)
   have q29 : vs 29 = _ := hv 29 (by decide)
   have q30 : vs 30 = _ := hv 30 (by decide)
   have q31 : vs 31 = _ := hv 31 (by decide)
   have q32 : vs 32 = _ := hv 32 (by decide)
   have q33 : vs 33 = _ := hv 33 (by decide)
   have q34 : vs 34 = _ := hv 34 (by decide)
   have q35 : vs 35 = _ := hv 35 (by decide)
   have q36 : vs 36 = _ := hv 36 (by decide)
   have q37 : vs 37 = _ := hv 37 (by decide)
   have q38 : vs 38 = _ := hv 38 (by decide)
   have q39 : vs 39 = _ := hv 39 (by decide)
   have S2 := Lib.hid hS
   simp only [putL, Act.put, Nat.zero_add, Nat.reduceAdd, List.setIfInBounds_toArray, List.set_cons_succ, List.set_cons_zero, q0, q1, q2, q3, q4, q5, q6, q7, q8, q9, q10, q11, q12, q13, q14, q15, q16, q17, q18, q19, q20, q22, q23, q24, q25, q26, q27, q29, q30, q31, q32, q33, q34, q35, q36, q37, q38, q39]
   clear hS hv q0 q1 q2 q3 q4 q5 q6 q7 q8 q9 q10 q11 q12 q13 q14 q15 q16 q17 q18 q19 q20 q22 q23 q24 q25 q26 q27 q29 q30 q31 q32 q33 q34 q35 q36 q37 q38 q39
   have S1_ := Lib.hid (show Objs w _ [pairO p k24_4, .box b5 35 (sv sK24), .box b4 61 (cv cE24), .box b3 61 (cv cA24)] from S2.out.tail.tail)
   clear S1 S2
   have S1 := S1_
   clear S1_
   go_upto_region 8 with (fail)
   refine wp_region_stage (w0 := w) (os := []) (by kernel_rfl) (by kernel_rfl) (by kernel_rfl) [(2, 3, [], fun vs => pairO p k24_5), (0, 7, [7], fun vs => .grid (blkOf (vs 7)) 83 3 k24_5.U), (2, 16, [], fun vs => pairO p k24_6), (2, 23, [], fun vs => pairO p k24_7), (1, 28, [28], fun vs => .grid (blkOf (vs 28)) 83 3 k24_7.U)] [[], [3], [], [2], [], [], [], [0, 2], [5], [0], [], [], [], [], [], [], [2], [], [], [], [], [3], [], [2], [], [], [], [], [1, 2], [4], [1], [], []] [.none, .none, pairO p k24_4, .box b5 35 (sv sK24), .box b4 61 (cv cE24), .box b3 61 (cv cA24)] (fun opn u => match opn with | 0 => u = .pointer (some ⟨p, 0, none⟩) | 1 => u = .agg (sv sK24) | 2 => u = .agg (pv pen0) | 3 => u = .int .i64 0 | 4 => u = .bool false | 5 => u = .bool false | 6 => u = .pointer (some ⟨p, 0, none⟩) | 7 => ∃ x, u = .pointer (some ⟨x, 0, none⟩) | 8 => u = .agg (cv cA24) | 9 => u = .bool true | 10 => u = .bool false | 11 => u = .bool false | 12 => u = .bool false | 13 => u = .pointer (some ⟨p, 0, none⟩) | 14 => u = .agg (pv pen0) | 15 => u = .agg (sv saved0) | 16 => u = .bool true | 17 => u = .bool false | 18 => u = .bool false | 19 => u = .bool false | 20 => u = .pointer (some ⟨p, 0, none⟩) | 21 => u = .agg (sv sK24) | 22 => u = .agg (pv pen0) | 23 => u = .int .i64 0 | 24 => u = .bool false | 25 => u = .bool false | 26 => u = .bool false | 27 => u = .pointer (some ⟨p, 0, none⟩) | 28 => ∃ x, u = .pointer (some ⟨x, 0, none⟩) | 29 => u = .agg (cv cE24) | 30 => u = .bool true | 31 => u = .bool false | 32 => u = .bool false | _ => True) (fun vs => [.grid (blkOf (vs 7)) 83 3 k24_5.U, .grid (blkOf (vs 28)) 83 3 k24_7.U, pairO p k24_7, .box b5 35 (sv sK24), .box b4 61 (cv cE24), .box b3 61 (cv cA24)]) (by kernel_rfl) (fun vs => by rfl) S1.out.pad.pad ?_ ?_
   ·apply sc
    ·intro a w' vs σ hS hl hs hk
     have f1 : a.tmps[1]?.getD undef = .pointer (some ⟨p, 0, none⟩) := sof hk
     exact rp (pt p 0) (by simp [execOp, Act.eval, f1, go_sem]) hl hs hS
    apply sc
    ·intro a w' vs σ hS hl hs hk
     have f5 : a.tmps[5]?.getD undef = .pointer (some ⟨b5, 0, none⟩) := sof hk
     have hx := (hS.box (sg (hs 3 (by decide)))).saved.2.2.2.1
     exact rp (.agg (sv sK24)) (by simp [execOp, Act.eval, f5, go_sem, hx]) hl hs hS
    apply sc
    ·intro a w' vs σ hS hl hs hk
     exact rp (.agg (pv pen0)) (by simp [execOp, Act.eval, go_sem]) hl hs hS
    apply sc
    ·intro a w' vs σ hS hl hs hk
     have e99 : a.tmps.getD 99 undef = .pointer (some ⟨p, 0, none⟩) := svv hk 0
     have e100 : a.tmps.getD 100 undef = .agg (sv sK24) := svv hk 1
     have e101 : a.tmps.getD 101 undef = .agg (pv pen0) := svv hk 2
     exact ro_call (f := 9) (wanted_none rfl) rfl (by simp only [List.map_toArray, List.map_cons, List.map_nil, Act.eval, e99, e100, e101] <;> rfl) (fun _ _ => by kernel_rfl) ((front_call hS (sg (hs 2 (by decide))) (fun os1 h => k24_e5 HT.out h)).mono fun e w2 ⟨h1, h2⟩ => ⟨_, h1, sp_set 2 (pairO p k24_5) (by kernel_rfl) (by simp) (by decide) hl hs (by rfl) h2 rfl, trivial⟩)
    apply sc
    ·intro a w' vs σ hS hl hs hk
     have f102 : a.tmps[102]?.getD undef = .int .i64 0 := svf hk 3
     exact rp (.bool false) (by simp [execOp, Act.eval, f102, go_sem]) hl hs hS
    apply sc
    ·intro a w' vs σ hS hl hs hk
     have f103 : a.tmps[103]?.getD undef = .bool false := svf hk 4
     exact rp (.bool false) (by simp [execOp, Act.eval, f103, go_sem]) hl hs hS
    apply sc
    ·intro a w' vs σ hS hl hs hk
     have f1 : a.tmps[1]?.getD undef = .pointer (some ⟨p, 0, none⟩) := sof hk
     exact rq (pt p 0) (wanted_yes rfl rfl rfl (svv hk 5)) (by simp [execOp, Act.eval, f1, go_sem]) hl hs hS
    apply sc
    ·intro a w' vs σ hS hl hs hk
     have e105 : a.tmps.getD 105 undef = .pointer (some ⟨p, 0, none⟩) := svv hk 6
     have h0 : σ[0]? = some .none := hs 0 (by decide)
     exact ro_call (f := 13) (wanted_yes rfl rfl rfl (svv hk 5)) rfl (by simp only [List.map_toArray, List.map_cons, List.map_nil, Act.eval, e105] <;> rfl) (fun _ _ => by kernel_rfl) ((Grid_at hS (sg (hs 2 (by decide))) k24_5_good).mono fun e w2 ⟨x, h1, h2⟩ => ⟨_, h1, sp_set 0 (.grid x 83 3 k24_5.U) (by kernel_rfl) (by simp) (by decide) hl hs (by rfl) (h2.place (sg h0)) ⟨x, rfl⟩, trivial⟩)
    apply sc
    ·intro a w' vs σ hS hl hs hk
     have f3 : a.tmps[3]?.getD undef = .pointer (some ⟨b3, 0, none⟩) := sof hk
     have hx := (hS.box (sg (hs 5 (by decide)))).cellAt
     exact rq (.agg (cv cA24)) (wanted_yes rfl rfl rfl (svv hk 5)) (by simp [execOp, Act.eval, f3, go_sem, hx]) hl hs hS
    apply sc
    ·intro a w' vs σ hS hl hs hk
     have e106 : a.tmps.getD 106 undef = vs 7 := sk_val hk 7 (by kernel_rfl) rfl rfl
     have p106 : (fun u : Value => ∃ x, u = .pointer (some ⟨x, 0, none⟩)) (vs 7) := (hk.1 7 (by kernel_rfl)).1
     have e107 : a.tmps.getD 107 undef = .agg (cv cA24) := svv hk 8
     obtain ⟨g9, q9⟩ := p106
     rw [q9] at e106
     have h0 : σ[0]? = some (.grid (blkOf (vs 7)) 83 3 k24_5.U) := hs 0 (by decide)
     rw [q9, show blkOf (.pointer (some ⟨g9, 0, none⟩)) = g9 from rfl] at h0
     exact ro_call (f := 42) (wanted_yes rfl rfl rfl (svv hk 5)) rfl (by simp only [List.map_toArray, List.map_cons, List.map_nil, Act.eval, e106, e107] <;> rfl) (fun _ _ => by kernel_rfl) ((shows_at (i := 1) (j := 1) (x := cA24) hS (sg h0) (by decide) (by decide) (by decide +kernel)).mono fun e w2 ⟨h1, h2⟩ => ⟨_, h1, sp_same (by kernel_rfl) hl hs h2 rfl, trivial⟩)
    apply sc
    ·intro a w' vs σ hS hl hs hk
     have f108 : a.tmps[108]?.getD undef = .bool true := svf hk 9
     exact rq (.bool false) (wanted_yes rfl rfl rfl (svv hk 5)) (by simp [execOp, Act.eval, f108, go_sem]) hl hs hS
    apply sc
    ·intro a w' vs σ hS hl hs hk
     have f104 : a.tmps[104]?.getD undef = .bool false := svf hk 5
     have f109 : a.tmps[109]?.getD undef = .bool false := svf hk 10
     exact rp (.bool false) (by simp [execOp, Act.eval, f104, f109, go_sem]) hl hs hS
    apply sc
    ·intro a w' vs σ hS hl hs hk
     have f110 : a.tmps[110]?.getD undef = .bool false := svf hk 11
     exact rp (.bool false) (by simp [execOp, Act.eval, f110, go_sem]) hl hs hS
    apply sc
    ·intro a w' vs σ hS hl hs hk
     have f1 : a.tmps[1]?.getD undef = .pointer (some ⟨p, 0, none⟩) := sof hk
     exact rq (pt p 0) (wanted_yes rfl rfl rfl (svv hk 12)) (by simp [execOp, Act.eval, f1, go_sem]) hl hs hS
    apply sc
    ·intro a w' vs σ hS hl hs hk
     exact rq (.agg (pv pen0)) (wanted_yes rfl rfl rfl (svv hk 12)) (by simp [execOp, Act.eval, go_sem]) hl hs hS
    apply sc
    ·intro a w' vs σ hS hl hs hk
     exact rq (.agg (sv saved0)) (wanted_yes rfl rfl rfl (svv hk 12)) (by simp [execOp, Act.eval, go_sem]) hl hs hS
    apply sc
    ·intro a w' vs σ hS hl hs hk
     have e112 : a.tmps.getD 112 undef = .pointer (some ⟨p, 0, none⟩) := svv hk 13
     have e113 : a.tmps.getD 113 undef = .agg (pv pen0) := svv hk 14
     have e114 : a.tmps.getD 114 undef = .agg (sv saved0) := svv hk 15
     exact ro_call (f := 10) (wanted_yes rfl rfl rfl (svv hk 12)) rfl (by simp only [List.map_toArray, List.map_cons, List.map_nil, Act.eval, e112, e113, e114] <;> rfl) (fun _ _ => by kernel_rfl) ((front_call hS (sg (hs 2 (by decide))) (fun os1 h => k24_e6 HT.out h)).mono fun e w2 ⟨h1, h2⟩ => ⟨_, h1, sp_set 2 (pairO p k24_6) (by kernel_rfl) (by simp) (by decide) hl hs (by rfl) h2 rfl, trivial⟩)
    apply sc
    ·intro a w' vs σ hS hl hs hk
     have f115 : a.tmps[115]?.getD undef = .bool true := svf hk 16
     exact rq (.bool false) (wanted_yes rfl rfl rfl (svv hk 12)) (by simp [execOp, Act.eval, f115, go_sem]) hl hs hS
    apply sc
    ·intro a w' vs σ hS hl hs hk
     have f111 : a.tmps[111]?.getD undef = .bool false := svf hk 12
     have f116 : a.tmps[116]?.getD undef = .bool false := svf hk 17
     exact rp (.bool false) (by simp [execOp, Act.eval, f111, f116, go_sem]) hl hs hS
    apply sc
    ·intro a w' vs σ hS hl hs hk
     have f117 : a.tmps[117]?.getD undef = .bool false := svf hk 18
     exact rp (.bool false) (by simp [execOp, Act.eval, f117, go_sem]) hl hs hS
    apply sc
    ·intro a w' vs σ hS hl hs hk
     have f1 : a.tmps[1]?.getD undef = .pointer (some ⟨p, 0, none⟩) := sof hk
     exact rq (pt p 0) (wanted_yes rfl rfl rfl (svv hk 19)) (by simp [execOp, Act.eval, f1, go_sem]) hl hs hS
    apply sc
    ·intro a w' vs σ hS hl hs hk
     have f5 : a.tmps[5]?.getD undef = .pointer (some ⟨b5, 0, none⟩) := sof hk
     have hx := (hS.box (sg (hs 3 (by decide)))).saved.2.2.2.1
     exact rq (.agg (sv sK24)) (wanted_yes rfl rfl rfl (svv hk 19)) (by simp [execOp, Act.eval, f5, go_sem, hx]) hl hs hS
    apply sc
    ·intro a w' vs σ hS hl hs hk
     exact rq (.agg (pv pen0)) (wanted_yes rfl rfl rfl (svv hk 19)) (by simp [execOp, Act.eval, go_sem]) hl hs hS
    apply sc
    ·intro a w' vs σ hS hl hs hk
     have e119 : a.tmps.getD 119 undef = .pointer (some ⟨p, 0, none⟩) := svv hk 20
     have e120 : a.tmps.getD 120 undef = .agg (sv sK24) := svv hk 21
     have e121 : a.tmps.getD 121 undef = .agg (pv pen0) := svv hk 22
     exact ro_call (f := 9) (wanted_yes rfl rfl rfl (svv hk 19)) rfl (by simp only [List.map_toArray, List.map_cons, List.map_nil, Act.eval, e119, e120, e121] <;> rfl) (fun _ _ => by kernel_rfl) ((front_call hS (sg (hs 2 (by decide))) (fun os1 h => k24_e7 HT.out h)).mono fun e w2 ⟨h1, h2⟩ => ⟨_, h1, sp_set 2 (pairO p k24_7) (by kernel_rfl) (by simp) (by decide) hl hs (by rfl) h2 rfl, trivial⟩)
    apply sc
    ·intro a w' vs σ hS hl hs hk
     have f122 : a.tmps[122]?.getD undef = .int .i64 0 := svf hk 23
     exact rq (.bool false) (wanted_yes rfl rfl rfl (svv hk 19)) (by simp [execOp, Act.eval, f122, go_sem]) hl hs hS
    apply sc
    ·intro a w' vs σ hS hl hs hk
     have f118 : a.tmps[118]?.getD undef = .bool false := svf hk 19
     have f123 : a.tmps[123]?.getD undef = .bool false := svf hk 24
     exact rp (.bool false) (by simp [execOp, Act.eval, f118, f123, go_sem]) hl hs hS
    apply sc
    ·intro a w' vs σ hS hl hs hk
     have f124 : a.tmps[124]?.getD undef = .bool false := svf hk 25
     exact rp (.bool false) (by simp [execOp, Act.eval, f124, go_sem]) hl hs hS
    apply sc
    ·intro a w' vs σ hS hl hs hk
     have f1 : a.tmps[1]?.getD undef = .pointer (some ⟨p, 0, none⟩) := sof hk
     exact rq (pt p 0) (wanted_yes rfl rfl rfl (svv hk 26)) (by simp [execOp, Act.eval, f1, go_sem]) hl hs hS
    apply sc
    ·intro a w' vs σ hS hl hs hk
     have e126 : a.tmps.getD 126 undef = .pointer (some ⟨p, 0, none⟩) := svv hk 27
     have h0 : σ[1]? = some .none := hs 1 (by decide)
     exact ro_call (f := 13) (wanted_yes rfl rfl rfl (svv hk 26)) rfl (by simp only [List.map_toArray, List.map_cons, List.map_nil, Act.eval, e126] <;> rfl) (fun _ _ => by kernel_rfl) ((Grid_at hS (sg (hs 2 (by decide))) k24_7_good).mono fun e w2 ⟨x, h1, h2⟩ => ⟨_, h1, sp_set 1 (.grid x 83 3 k24_7.U) (by kernel_rfl) (by simp) (by decide) hl hs (by rfl) (h2.place (sg h0)) ⟨x, rfl⟩, trivial⟩)
    apply sc
    ·intro a w' vs σ hS hl hs hk
     have f4 : a.tmps[4]?.getD undef = .pointer (some ⟨b4, 0, none⟩) := sof hk
     have hx := (hS.box (sg (hs 4 (by decide)))).cellAt
     exact rq (.agg (cv cE24)) (wanted_yes rfl rfl rfl (svv hk 26)) (by simp [execOp, Act.eval, f4, go_sem, hx]) hl hs hS
    apply sc
    ·intro a w' vs σ hS hl hs hk
     have e127 : a.tmps.getD 127 undef = vs 28 := sk_val hk 28 (by kernel_rfl) rfl rfl
     have p127 : (fun u : Value => ∃ x, u = .pointer (some ⟨x, 0, none⟩)) (vs 28) := (hk.1 28 (by kernel_rfl)).1
     have e128 : a.tmps.getD 128 undef = .agg (cv cE24) := svv hk 29
     obtain ⟨g9, q9⟩ := p127
     rw [q9] at e127
     have h0 : σ[1]? = some (.grid (blkOf (vs 28)) 83 3 k24_7.U) := hs 1 (by decide)
     rw [q9, show blkOf (.pointer (some ⟨g9, 0, none⟩)) = g9 from rfl] at h0
     exact ro_call (f := 42) (wanted_yes rfl rfl rfl (svv hk 26)) rfl (by simp only [List.map_toArray, List.map_cons, List.map_nil, Act.eval, e127, e128] <;> rfl) (fun _ _ => by kernel_rfl) ((shows_at (i := 1) (j := 1) (x := cE24) hS (sg h0) (by decide) (by decide) (by decide +kernel)).mono fun e w2 ⟨h1, h2⟩ => ⟨_, h1, sp_same (by kernel_rfl) hl hs h2 rfl, trivial⟩)
    apply sc
    ·intro a w' vs σ hS hl hs hk
     have f129 : a.tmps[129]?.getD undef = .bool true := svf hk 30
     exact rq (.bool false) (wanted_yes rfl rfl rfl (svv hk 26)) (by simp [execOp, Act.eval, f129, go_sem]) hl hs hS
    apply sc
    ·intro a w' vs σ hS hl hs hk
     have f125 : a.tmps[125]?.getD undef = .bool false := svf hk 26
     have f130 : a.tmps[130]?.getD undef = .bool false := svf hk 31
     exact rp (.bool false) (by simp [execOp, Act.eval, f125, f130, go_sem]) hl hs hS
    exact SSteps.nil
   ·intro vs w' hS hv
    have q0 : vs 0 = _ := hv 0 (by decide)
    have q1 : vs 1 = _ := hv 1 (by decide)
    have q2 : vs 2 = _ := hv 2 (by decide)
    have q3 : vs 3 = _ := hv 3 (by decide)
    have q4 : vs 4 = _ := hv 4 (by decide)
    have q5 : vs 5 = _ := hv 5 (by decide)
    have q6 : vs 6 = _ := hv 6 (by decide)
    have q8 : vs 8 = _ := hv 8 (by decide)
    have q9 : vs 9 = _ := hv 9 (by decide)
    have q10 : vs 10 = _ := hv 10 (by decide)
    have q11 : vs 11 = _ := hv 11 (by decide)
    have q12 : vs 12 = _ := hv 12 (by decide)
    have q13 : vs 13 = _ := hv 13 (by decide)
    have q14 : vs 14 = _ := hv 14 (by decide)
    have q15 : vs 15 = _ := hv 15 (by decide)
    have q16 : vs 16 = _ := hv 16 (by decide)
    have q17 : vs 17 = _ := hv 17 (by decide)
    have q18 : vs 18 = _ := hv 18 (by decide)
    have q19 : vs 19 = _ := hv 19 (by decide)
    have q20 : vs 20 = _ := hv 20 (by decide)
    have q21 : vs 21 = _ := hv 21 (by decide)
    have q22 : vs 22 = _ := hv 22 (by decide)
    have q23 : vs 23 = _ := hv 23 (by decide)
    have q24 : vs 24 = _ := hv 24 (by decide)
    have q25 : vs 25 = _ := hv 25 (by decide)
    have q26 : vs 26 = _ := hv 26 (by decide)
    have q27 : vs 27 = _ := hv 27 (by decide)
    have q29 : vs 29 = _ := hv 29 (by decide)
    have q30 : vs 30 = _ := hv 30 (by decide)
    have q31 : vs 31 = _ := hv 31 (by decide)
    have q32 : vs 32 = _ := hv 32 (by decide)
    have S2 := Lib.hid hS
    simp only [putL, Act.put, Nat.zero_add, Nat.reduceAdd, List.setIfInBounds_toArray, List.set_cons_succ, List.set_cons_zero, q0, q1, q2, q3, q4, q5, q6, q8, q9, q10, q11, q12, q13, q14, q15, q16, q17, q18, q19, q20, q21, q22, q23, q24, q25, q26, q27, q29, q30, q31, q32]
    clear hS hv q0 q1 q2 q3 q4 q5 q6 q8 q9 q10 q11 q12 q13 q14 q15 q16 q17 q18 q19 q20 q21 q22 q23 q24 q25 q26 q27 q29 q30 q31 q32
    have S1_ := Lib.hid (show Objs w _ [pairO p k24_7, .box b5 35 (sv sK24), .box b4 61 (cv cE24), .box b3 61 (cv cA24)] from S2.out.tail.tail)
    clear S1 S2
    have S1 := S1_
    clear S1_
    go_wp2_with fail
    refine (pairNew_no 0 1 (by decide) S1.out).mono ?_
    rintro e w9 ⟨rfl, hS⟩
    have S3 := Lib.hid hS
    clear hS S1
    obtain ⟨hx5, hf5, hz5, hr5, hp5⟩ := (S3.out.box (k := 1) rfl).saved
    go_wp2_with fail
    refine (show Calls Tryd.prog 9 #[.pointer (some ⟨p, 0, none⟩), .int .i64 1048, .agg (sv sK24), .agg (pv pen0)] _ _ from k24_e8 HT.out S3.out).mono ?_
    rintro e w10 ⟨rfl, hS⟩
    have HB := Lib.hid hS.base
    clear hS S3 hx5 hf5 hz5 hr5 hp5
    go_wp2_with fail
    go_ret
    exact ⟨rfl, HB.out⟩
end Go.Proofs.YtdndoikgnohkkaaDoor

namespace Go.Proofs.YtdndoikgnohkkaaDoor
open Go.RowKit

structure Act24 where
 what : Int
 n : Int
 row : Int
 col : Int
 x : Cell
 s : Saved
 q : Pen
 A : Option Addr
 c : Nat
 L : List Ln
def av24 (a : Act24) : Array Value := #[.int .i64 a.what, .int .i64 a.n, .int .i64 a.row, .int .i64 a.col, .int .i32 a.x.rune, .int .i32 a.x.m0, .int .i32 a.x.m1, .int .i32 a.x.m2, .int .i64 a.x.width, .int .i64 a.x.pen.fk, .int .u8 a.x.pen.fi, .int .u8 a.x.pen.fr, .int .u8 a.x.pen.fg, .int .u8 a.x.pen.fb, .int .i64 a.x.pen.bk, .int .u8 a.x.pen.bi, .int .u8 a.x.pen.br, .int .u8 a.x.pen.bg, .int .u8 a.x.pen.bb, .int .u8 a.x.pen.fl, .int .i64 a.s.row, .int .i64 a.s.col, .bool a.s.pend, .int .i64 a.s.q.fk, .int .u8 a.s.q.fi, .int .u8 a.s.q.fr, .int .u8 a.s.q.fg, .int .u8 a.s.q.fb, .int .i64 a.s.q.bk, .int .u8 a.s.q.bi, .int .u8 a.s.q.br, .int .u8 a.s.q.bg, .int .u8 a.s.q.bb, .int .u8 a.s.q.fl, .bool a.s.org, .int .i64 a.s.s0, .int .i64 a.s.s1, .int .i64 a.s.act, .int .i64 a.q.fk, .int .u8 a.q.fi, .int .u8 a.q.fr, .int .u8 a.q.fg, .int .u8 a.q.fb, .int .i64 a.q.bk, .int .u8 a.q.bi, .int .u8 a.q.br, .int .u8 a.q.bg, .int .u8 a.q.bb, .int .u8 a.q.fl, .slice a.A a.L.length a.c]
@[go_sem] theorem av24_size (a : Act24) : (av24 a).size = 50 := by simp [av24]
theorem av24_all (a : Act24) : (av24 a).all (·.oneCell') = true := by simp [av24, Value.oneCell']
@[simp high, go_sem high] theorem av24_get0 (a : Act24) : (av24 a)[0]? = some (.int .i64 a.what) := by simp [av24]
@[simp high, go_sem high] theorem av24_get1 (a : Act24) : (av24 a)[1]? = some (.int .i64 a.n) := by simp [av24]
@[simp high, go_sem high] theorem av24_get2 (a : Act24) : (av24 a)[2]? = some (.int .i64 a.row) := by simp [av24]
@[simp high, go_sem high] theorem av24_get3 (a : Act24) : (av24 a)[3]? = some (.int .i64 a.col) := by simp [av24]
@[simp high, go_sem high] theorem av24_get8 (a : Act24) : (av24 a)[8]? = some (.int .i64 a.x.width) := by simp [av24]
@[simp high, go_sem high] theorem av24_get49 (a : Act24) : (av24 a)[49]? = some (.slice a.A a.L.length a.c) := by simp [av24]
theorem av24_put {w : World} {b o : Nat} {a : Act24} (h : w.rangeAt b o (av24 a).toList) : recAt w b (o + 2) 18 = some (pw a.row a.col a.x) := recAt_of (pw_size _ _ _) fun j v hv => by
 have hj : j < 18 := by have := (List.getElem?_eq_some_iff.1 hv).1; simpa [pw] using this
 have := h (2 + j) v (by rw [← hv, ← List.getElem?_drop]; rw [show ((av24 a).toList.drop 2)[j]? = (((av24 a).toList.drop 2).take 18)[j]? from by rw [List.getElem?_take, if_pos hj]]; rfl)
 rw [show o + 2 + j = o + (2 + j) by omega]; exact this
theorem av24_saved {w : World} {b o : Nat} {a : Act24} (h : w.rangeAt b o (av24 a).toList) : recAt w b (o + 20) 18 = some (sv a.s) := recAt_of (sv_size _) fun j v hv => by
 have hj : j < 18 := by have := (List.getElem?_eq_some_iff.1 hv).1; simpa [sv] using this
 have := h (20 + j) v (by rw [← hv, ← List.getElem?_drop]; rw [show ((av24 a).toList.drop 20)[j]? = (((av24 a).toList.drop 20).take 18)[j]? from by rw [List.getElem?_take, if_pos hj]]; rfl)
 rw [show o + 20 + j = o + (20 + j) by omega]; exact this
theorem av24_pen {w : World} {b o : Nat} {a : Act24} (h : w.rangeAt b o (av24 a).toList) : penAt w b (o + 38) = some a.q := penAt_of fun j v hv => by
 have hj : j < 11 := by have := (List.getElem?_eq_some_iff.1 hv).1; simpa [pv] using this
 have := h (38 + j) v (by rw [← hv, ← List.getElem?_drop]; rw [show ((av24 a).toList.drop 38)[j]? = (((av24 a).toList.drop 38).take 11)[j]? from by rw [List.getElem?_take, if_pos hj]]; rfl)
 rw [show o + 38 + j = o + (38 + j) by omega]; exact this
theorem Blk.act24 {w : World} {g : Nat} {t : TypeId} {a : Act24} (h : Blk w g t (av24 a)) : (∀ i, w.cell? ⟨g, i, none⟩ = (av24 a)[i]?) ∧ (∀ i, w.frozen? ⟨g, i, none⟩ = false) ∧ g < w.heap.size ∧ Proofs.YtdndoikgnohkkaaDoor.recAt w g 0 50 = some (av24 a) ∧ Proofs.YtdndoikgnohkkaaDoor.recAt w g 2 18 = some (pw a.row a.col a.x) ∧ Proofs.YtdndoikgnohkkaaDoor.recAt w g 20 18 = some (sv a.s) ∧ Proofs.YtdndoikgnohkkaaDoor.penAt w g 38 = some a.q :=
 ⟨h.cell, h.frozen, h.lt, h.recAt 50 (av24_size a), by have := av24_put h.range; simpa using this, by have := av24_saved h.range; simpa using this, by have := av24_pen h.range; simpa using this⟩
theorem act24_size : (Tryd.prog.info? 66).map (·.size) = some 50 := by kernel_rfl
@[go_sem] theorem store_av24_new {b : Nat} (w : World) (zs : Array Value) (c : Act24) (hb : b = w.heap.size) (hz : zs.size = 50) :
  (storeCells ⟨b, 0, none⟩ (av24 c).toList 0).run Tryd.prog (w.alloc (.cells zs 66)) = .ok () (w.alloc (.cells (av24 c) 66)) := by
 subst hb
 exact run_storeCells_new w 66 zs (av24 c) (by rw [act24_size]; rfl) hz (av24_all c)
theorem refFacts {w0 w : World} {os : List Ob} {k x : Nat} {s : Pr} (hS : Objs w0 w os) (hk : os[k]? = some (refO x s)) : ∃ m o, (∀ i, w.cell? ⟨x, i, none⟩ = (rpv m o s.mode (s.kept.getD saved0) s.kept.isSome)[i]?) ∧ (∀ i, w.frozen? ⟨x, i, none⟩ = false) ∧ x < w.heap.size := by
 obtain ⟨m, o, hO⟩ := (hS.lift hk).openRef
 obtain ⟨h1, h2, h3, -⟩ := (hO.box (k := 0) rfl).rpair
 exact ⟨m, o, h1, h2, h3⟩
end Go.Proofs.YtdndoikgnohkkaaDoor

namespace Go.Proofs.YtdndoikgnohkkaaDoor
open Go.RowKit

def entS (n : Int) (x : Saved) (q : Pen) (s : Pr) : Pr := if entE n x q s = 0 then entN n x q s else s
def lvSt (n : Int) (q : Pen) (s : Pr) : Pr := if lvE n q s = 0 then lvN n q s else s
theorem l24mode_is {n : Int} {b : Bool} (h : mode24 n = b) (w : World) : Calls Tryd.prog 55 #[.int .i64 n] w fun e w' => e = .returned (.bool b) ∧ w = w' := h ▸ l24mode_any n w
section
variable {w0 w : World} {os : List Ob} {p x : Nat} {s : Pr}
theorem l24inked_is {q : Pen} {b : Bool} (h : q.ok = b) (hT : Tabs w0) (hS : Objs w0 w os) : Calls Tryd.prog 56 #[.agg (pv q)] w fun e w' => e = .returned (.bool b) ∧ Objs w0 w' os := h ▸ l24inked_any q hT hS
theorem Enter_er {E : Int} (n : Int) (y : Saved) (q : Pen) (hE : entE n y q s = E) (h0 : ¬ E = 0) (hT : Tabs w0) (hS : Objs w0 w (pairO p s :: os)) :
  Calls Tryd.prog 9 #[.pointer (some ⟨p, 0, none⟩), .int .i64 n, .agg (sv y), .agg (pv q)] w fun e w' => e = .returned (.int .i64 E) ∧ Objs w0 w' (pairO p s :: os) := by
 have := Enter_no n y q hT hS (by rw [hE]; exact h0)
 rw [hE] at this
 exact this
theorem Leave_er {E : Int} (n : Int) (q : Pen) (hE : lvE n q s = E) (h0 : ¬ E = 0) (hT : Tabs w0) (hS : Objs w0 w (pairO p s :: os)) :
  Calls Tryd.prog 23 #[.pointer (some ⟨p, 0, none⟩), .int .i64 n, .agg (pv q)] w fun e w' => e = .returned (.tuple #[.agg (sv saved0), .bool false, .int .i64 E]) ∧ Objs w0 w' (pairO p s :: os) := by
 have := Leave_no n q hT hS (by rw [hE]; exact h0)
 rw [hE] at this
 exact this
theorem front_at {P : Program} {f : FuncId} {args : Array Value} {k : Nat} {o o' : Ob} {r : Value} {bs : List Ob} (hk : os[k]? = some o) (hS : Objs w0 w (bs ++ os)) (hc : ∀ os1, Objs w0 w (o :: os1) → Calls P f args w fun e w' => e = .returned r ∧ Objs w0 w' (o' :: os1)) :
  Calls P f args w fun e w' => e = .returned r ∧ Objs w0 w' (bs ++ os.set k o') := by
 have h := front_call hS (k := bs.length + k) (by rw [List.getElem?_append_right (by omega)]; simpa using hk) hc
 rw [List.set_append_right _ _ (by omega), Nat.add_sub_cancel_left] at h
 exact h
theorem rleave_at {P : Program} {f : FuncId} {args : Array Value} {k : Nat} {o o' : Ob} {r : Value} (hS : Objs w0 w os) (hk : os[k]? = some o)
  (hc : ∀ os1, Objs w0 w (o :: os1) → Calls P f args w fun e w' => e = .returned r ∧ Objs w0 w' (o' :: os1)) : Calls P f args w fun e w' => e = .returned r ∧ Objs w0 w' (os.set k o') := front_call hS hk hc
set_option maxRecDepth 100000 in
set_option maxHeartbeats 32000000 in
theorem does24_enter {rr : Nat} (a : Act24) (hw : a.what = 1) (hT : Tabs w0) (hS : Objs w0 w (pairO p s :: refO x s :: os)) (hg : s.good rr) :
  Calls Tryd.prog 32 #[.pointer (some ⟨p, 0, none⟩), .pointer (some ⟨x, 0, none⟩), .agg (av24 a)] w fun e w' => e = .returned (.bool true) ∧ Objs w0 w' (pairO p (entS a.n a.s a.q s) :: refO x (entS a.n a.s a.q s) :: os) := by
 have S := Lib.hid hS
 have HT := Lib.hid hT
 have HG := Lib.hid hg
 clear hS hT hg
 have b0 := beq_no (show ¬ a.what = 0 by omega)
 have b1 := beq_yes hw
 clear hw
 unfold entS
 rcases ent_cases a.n a.s a.q s with ⟨h1, hE⟩ | ⟨h1, h2, h3, hE⟩ | ⟨h1, h2, h3, h4, hE⟩ | ⟨h1, h2, h3, h4, h5, hE⟩ | ⟨h1, h2, h5, hE⟩ | ⟨h1, h2, h3, h4, h5, hE⟩ | ⟨h1, h2, h5, hE⟩
 case' inl => have H1 := Lib.hid h1; clear h1
 case' inr.inl => have H1 := Lib.hid h1; have b2 := beq_yes h2; have H3 := Lib.hid h3; clear h1 h2 h3
 case' inr.inr.inl => have H1 := Lib.hid h1; have b2 := beq_yes h2; have H3 := Lib.hid h3; have H4 := Lib.hid h4; clear h1 h2 h3 h4
 case' inr.inr.inr.inl => have H1 := Lib.hid h1; have b2 := beq_yes h2; have H3 := Lib.hid h3; have H4 := Lib.hid h4; have bm := bne_yes h5; clear h1 h2 h3 h4 h5
 case' inr.inr.inr.inr.inl => have H1 := Lib.hid h1; have b2 := beq_no h2; have bm := bne_yes h5; clear h1 h2 h5
 case' inr.inr.inr.inr.inr.inl => have H1 := Lib.hid h1; have b2 := beq_yes h2; have H3 := Lib.hid h3; have H4 := Lib.hid h4; have bm := bne_no h5; clear h1 h2 h3 h4 h5
 case' inr.inr.inr.inr.inr.inr => have H1 := Lib.hid h1; have b2 := beq_no h2; have bm := bne_no h5; clear h1 h2 h5
 all_goals
  have HE := Lib.hid hE
  rw [hE]
  clear hE
  first | rw [if_pos rfl] | rw [if_neg (by decide)]
  go_enter Tryd.func32, Tryd.ntmps32
  go_upto_region 1 with (fail)
  refine at_objsC (S.out.alloc1 (c1 := av24 a) (t1 := 66)) (fun W hW => ?_)
  generalize w.heap.size = b5 at hW ⊢
  have S1 := Lib.hid hW
  clear hW S
  obtain ⟨hx5, hf5, hz5, hr5, hp5, hs5, hq5⟩ := (S1.out.box (k := 0) rfl).act24
  obtain ⟨mr, ro, hxx, hfx, hzx⟩ := refFacts S1.out (k := 2) rfl
  go_wp2_with fail
  refine (l24mode_is H1.out _).mono ?_
  rintro e w1 ⟨rfl, rfl⟩
  go_wp2_with fail
 ·refine (front_call S1.out (k := 2) rfl (fun os1 h => rEnter_front a.n a.s a.q h HG.out)).mono ?_
  rintro e w5 ⟨rfl, hS⟩
  clear hx5 hf5 hz5 hr5 hp5 hs5 hq5 hxx hfx hzx
  have S8 := Lib.hid hS
  clear hS S1
  obtain ⟨hx5, hf5, hz5, hr5, hp5, hs5, hq5⟩ := (S8.out.box (k := 0) rfl).act24
  obtain ⟨mr, ro, hxx, hfx, hzx⟩ := refFacts S8.out (k := 2) rfl
  go_wp2_with fail
  refine (front_call S8.out (k := 1) rfl (fun os1 h => Enter_yes a.n a.s a.q HT.out h HG.out HE.out)).mono ?_
  rintro e w6 ⟨rfl, hS⟩
  clear hx5 hf5 hz5 hr5 hp5 hs5 hq5 hxx hfx hzx
  have S9 := Lib.hid hS
  clear hS S8
  go_wp2_with fail
  go_ret
  exact ⟨rfl, S9.out.tail⟩
 ·refine (savedValid_is H3.out S1.out).mono ?_
  rintro e w2 ⟨rfl, hS⟩
  clear hx5 hf5 hz5 hr5 hp5 hs5 hq5 hxx hfx hzx
  have S2 := Lib.hid hS
  clear hS S1
  obtain ⟨hx5, hf5, hz5, hr5, hp5, hs5, hq5⟩ := (S2.out.box (k := 0) rfl).act24
  obtain ⟨mr, ro, hxx, hfx, hzx⟩ := refFacts S2.out (k := 2) rfl
  go_wp2_with fail
  refine (l24inked_is H4.out HT.out S2.out).mono ?_
  rintro e w3 ⟨rfl, hS⟩
  clear hx5 hf5 hz5 hr5 hp5 hs5 hq5 hxx hfx hzx
  have S3 := Lib.hid hS
  clear hS S2
  obtain ⟨hx5, hf5, hz5, hr5, hp5, hs5, hq5⟩ := (S3.out.box (k := 0) rfl).act24
  obtain ⟨mr, ro, hxx, hfx, hzx⟩ := refFacts S3.out (k := 2) rfl
  go_wp2_with fail
  refine (front_call S3.out (k := 2) rfl (fun os1 h => rEnter_front a.n a.s a.q h HG.out)).mono ?_
  rintro e w5 ⟨rfl, hS⟩
  clear hx5 hf5 hz5 hr5 hp5 hs5 hq5 hxx hfx hzx
  have S8 := Lib.hid hS
  clear hS S3
  obtain ⟨hx5, hf5, hz5, hr5, hp5, hs5, hq5⟩ := (S8.out.box (k := 0) rfl).act24
  obtain ⟨mr, ro, hxx, hfx, hzx⟩ := refFacts S8.out (k := 2) rfl
  go_wp2_with fail
  refine (front_call S8.out (k := 1) rfl (fun os1 h => Enter_yes a.n a.s a.q HT.out h HG.out HE.out)).mono ?_
  rintro e w6 ⟨rfl, hS⟩
  clear hx5 hf5 hz5 hr5 hp5 hs5 hq5 hxx hfx hzx
  have S9 := Lib.hid hS
  clear hS S8
  go_wp2_with fail
  go_ret
  exact ⟨rfl, S9.out.tail⟩
 ·refine (front_call S1.out (k := 1) rfl (fun os1 h => Enter_er a.n a.s a.q HE.out (by decide) HT.out h)).mono ?_
  rintro e w4 ⟨rfl, hS⟩
  clear hx5 hf5 hz5 hr5 hp5 hs5 hq5 hxx hfx hzx
  have S2 := Lib.hid hS
  clear hS S1
  go_wp2_with fail
  go_ret
  exact ⟨rfl, S2.out.tail⟩
 ·refine (savedValid_is H3.out S1.out).mono ?_
  rintro e w2 ⟨rfl, hS⟩
  clear hx5 hf5 hz5 hr5 hp5 hs5 hq5 hxx hfx hzx
  have S2 := Lib.hid hS
  clear hS S1
  obtain ⟨hx5, hf5, hz5, hr5, hp5, hs5, hq5⟩ := (S2.out.box (k := 0) rfl).act24
  obtain ⟨mr, ro, hxx, hfx, hzx⟩ := refFacts S2.out (k := 2) rfl
  go_wp2_with fail
  refine (l24inked_is H4.out HT.out S2.out).mono ?_
  rintro e w3 ⟨rfl, hS⟩
  clear hx5 hf5 hz5 hr5 hp5 hs5 hq5 hxx hfx hzx
  have S3 := Lib.hid hS
  clear hS S2
  obtain ⟨hx5, hf5, hz5, hr5, hp5, hs5, hq5⟩ := (S3.out.box (k := 0) rfl).act24
  obtain ⟨mr, ro, hxx, hfx, hzx⟩ := refFacts S3.out (k := 2) rfl
  go_wp2_with fail
  refine (front_call S3.out (k := 1) rfl (fun os1 h => Enter_er a.n a.s a.q HE.out (by decide) HT.out h)).mono ?_
  rintro e w4 ⟨rfl, hS⟩
  clear hx5 hf5 hz5 hr5 hp5 hs5 hq5 hxx hfx hzx
  have S4 := Lib.hid hS
  clear hS S3
  go_wp2_with fail
  go_ret
  exact ⟨rfl, S4.out.tail⟩
 ·refine (savedValid_is H3.out S1.out).mono ?_
  rintro e w2 ⟨rfl, hS⟩
  clear hx5 hf5 hz5 hr5 hp5 hs5 hq5 hxx hfx hzx
  have S2 := Lib.hid hS
  clear hS S1
  obtain ⟨hx5, hf5, hz5, hr5, hp5, hs5, hq5⟩ := (S2.out.box (k := 0) rfl).act24
  obtain ⟨mr, ro, hxx, hfx, hzx⟩ := refFacts S2.out (k := 2) rfl
  go_wp2_with fail
  refine (l24inked_is H4.out HT.out S2.out).mono ?_
  rintro e w3 ⟨rfl, hS⟩
  clear hx5 hf5 hz5 hr5 hp5 hs5 hq5 hxx hfx hzx
  have S3 := Lib.hid hS
  clear hS S2
  obtain ⟨hx5, hf5, hz5, hr5, hp5, hs5, hq5⟩ := (S3.out.box (k := 0) rfl).act24
  obtain ⟨mr, ro, hxx, hfx, hzx⟩ := refFacts S3.out (k := 2) rfl
  go_wp2_with fail
  refine (front_call S3.out (k := 1) rfl (fun os1 h => Enter_er a.n a.s a.q HE.out (by decide) HT.out h)).mono ?_
  rintro e w4 ⟨rfl, hS⟩
  clear hx5 hf5 hz5 hr5 hp5 hs5 hq5 hxx hfx hzx
  have S4 := Lib.hid hS
  clear hS S3
  go_wp2_with fail
  go_ret
  exact ⟨rfl, S4.out.tail⟩
 ·refine (savedValid_is H3.out S1.out).mono ?_
  rintro e w2 ⟨rfl, hS⟩
  clear hx5 hf5 hz5 hr5 hp5 hs5 hq5 hxx hfx hzx
  have S2 := Lib.hid hS
  clear hS S1
  obtain ⟨hx5, hf5, hz5, hr5, hp5, hs5, hq5⟩ := (S2.out.box (k := 0) rfl).act24
  obtain ⟨mr, ro, hxx, hfx, hzx⟩ := refFacts S2.out (k := 2) rfl
  go_wp2_with fail
  refine (front_call S2.out (k := 1) rfl (fun os1 h => Enter_er a.n a.s a.q HE.out (by decide) HT.out h)).mono ?_
  rintro e w4 ⟨rfl, hS⟩
  clear hx5 hf5 hz5 hr5 hp5 hs5 hq5 hxx hfx hzx
  have S3 := Lib.hid hS
  clear hS S2
  go_wp2_with fail
  go_ret
  exact ⟨rfl, S3.out.tail⟩
 ·refine (front_call S1.out (k := 1) rfl (fun os1 h => Enter_er a.n a.s a.q HE.out (by decide) HT.out h)).mono ?_
  rintro e w4 ⟨rfl, hS⟩
  clear hx5 hf5 hz5 hr5 hp5 hs5 hq5 hxx hfx hzx
  have S2 := Lib.hid hS
  clear hS S1
  go_wp2_with fail
  go_ret
  exact ⟨rfl, S2.out.tail⟩
set_option maxRecDepth 100000 in
set_option maxHeartbeats 32000000 in
theorem does24_leave {rr : Nat} (a : Act24) (hw : a.what = 2) (hT : Tabs w0) (hS : Objs w0 w (pairO p s :: refO x s :: os)) (hg : s.good rr) :
  Calls Tryd.prog 32 #[.pointer (some ⟨p, 0, none⟩), .pointer (some ⟨x, 0, none⟩), .agg (av24 a)] w fun e w' => e = .returned (.bool true) ∧ Objs w0 w' (pairO p (lvSt a.n a.q s) :: refO x (lvSt a.n a.q s) :: os) := by
 have S := Lib.hid hS
 have HT := Lib.hid hT
 have HG := Lib.hid hg
 clear hS hT hg
 have b0 := beq_no (show ¬ a.what = 0 by omega)
 have b1 := beq_no (show ¬ a.what = 1 by omega)
 have b2 := beq_yes hw
 clear hw
 unfold lvSt
 rcases lv_cases a.n a.q s with ⟨h1, hE⟩ | ⟨h1, h2, h4, hE⟩ | ⟨h1, h2, h4, h5, hE⟩ | ⟨h1, h2, h5, hE⟩ | ⟨h1, h2, h4, h5, hE⟩ | ⟨h1, h2, h3, h5, hE⟩ | ⟨h1, h2, h3, h5, hE⟩
 case' inl => have H1 := Lib.hid h1; clear h1
 case' inr.inl => have H1 := Lib.hid h1; have b3 := beq_yes h2; have H4 := Lib.hid h4; clear h1 h2 h4
 case' inr.inr.inl => have H1 := Lib.hid h1; have b3 := beq_yes h2; have H4 := Lib.hid h4; have bm := beq_yes h5; clear h1 h2 h4 h5
 case' inr.inr.inr.inl => have H1 := Lib.hid h1; have b3 := beq_no h2; have bm := beq_yes h5; clear h1 h2 h5
 case' inr.inr.inr.inr.inl => have H1 := Lib.hid h1; have b3 := beq_yes h2; have H4 := Lib.hid h4; have bm := beq_no h5; clear h1 h2 h4 h5
 case' inr.inr.inr.inr.inr.inl => have H1 := Lib.hid h1; have b3 := beq_no h2; have bm := beq_no h5; clear h1 h2 h3 h5
 case' inr.inr.inr.inr.inr.inr => have H1 := Lib.hid h1; have b3 := beq_no h2; have bm := beq_no h5; clear h1 h2 h3 h5
 all_goals
  have HE := Lib.hid hE
  rw [hE]
  clear hE
  first | rw [if_pos rfl] | rw [if_neg (by decide)]
  go_enter Tryd.func32, Tryd.ntmps32
  go_upto_region 1 with (fail)
  refine at_objsC (S.out.alloc1 (c1 := av24 a) (t1 := 66)) (fun W hW => ?_)
  generalize w.heap.size = b5 at hW ⊢
  have S1 := Lib.hid hW
  clear hW S
  obtain ⟨hx5, hf5, hz5, hr5, hp5, hs5, hq5⟩ := (S1.out.box (k := 0) rfl).act24
  obtain ⟨mr, ro, hxx, hfx, hzx⟩ := refFacts S1.out (k := 2) rfl
  go_wp2_with fail
  refine (l24mode_is H1.out _).mono ?_
  rintro e w1 ⟨rfl, rfl⟩
  go_wp2_with fail
 ·refine (rleave_at S1.out (k := 2) rfl (fun os1 h => rLeave_front a.n a.q h HG.out)).mono ?_
  rintro e w5 ⟨rfl, hS⟩
  clear hx5 hf5 hz5 hr5 hp5 hs5 hq5 hxx hfx hzx
  have S7 := Lib.hid hS
  clear hS S1
  go_upto_region 25 with (fail)
  refine at_objsC (S7.out.alloc1 (c1 := sv ((lvS a.n s).getD saved0)) (t1 := 35)) (fun W8 hW => ?_)
  generalize w5.heap.size = b10 at hW ⊢
  have S8 := Lib.hid hW
  clear hW S7
  obtain ⟨hx5, hf5, hz5, hr5, hp5, hs5, hq5⟩ := (S8.out.box (k := 1) rfl).act24
  obtain ⟨hx10, hf10, hz10, hr10, hp10⟩ := (S8.out.box (k := 0) rfl).saved
  go_wp2_with fail
  refine (leaves_true S8.out (fun bs W h => by have h := front_at (k := 2) (bs := bs) rfl h (fun os1 h => Leave_yes a.n a.q HT.out h HG.out HE.out); exact h)).mono ?_
  rintro e w6 ⟨rfl, hS⟩
  clear hx5 hf5 hz5 hr5 hp5 hs5 hq5 hx10 hf10 hz10 hr10 hp10
  have S9 := Lib.hid hS
  clear hS S8
  go_wp2_with fail
  go_ret
  exact ⟨rfl, S9.out.tail.tail⟩
 ·refine (rleave_at S1.out (k := 2) rfl (fun os1 h => rLeave_front a.n a.q h HG.out)).mono ?_
  rintro e w5 ⟨rfl, hS⟩
  clear hx5 hf5 hz5 hr5 hp5 hs5 hq5 hxx hfx hzx
  have S7 := Lib.hid hS
  clear hS S1
  go_upto_region 25 with (fail)
  refine at_objsC (S7.out.alloc1 (c1 := sv ((lvS a.n s).getD saved0)) (t1 := 35)) (fun W8 hW => ?_)
  generalize w5.heap.size = b10 at hW ⊢
  have S8 := Lib.hid hW
  clear hW S7
  obtain ⟨hx5, hf5, hz5, hr5, hp5, hs5, hq5⟩ := (S8.out.box (k := 1) rfl).act24
  obtain ⟨hx10, hf10, hz10, hr10, hp10⟩ := (S8.out.box (k := 0) rfl).saved
  go_wp2_with fail
  refine (leaves_true S8.out (fun bs W h => by have h := front_at (k := 2) (bs := bs) rfl h (fun os1 h => Leave_yes a.n a.q HT.out h HG.out HE.out); exact h)).mono ?_
  rintro e w6 ⟨rfl, hS⟩
  clear hx5 hf5 hz5 hr5 hp5 hs5 hq5 hx10 hf10 hz10 hr10 hp10
  have S9 := Lib.hid hS
  clear hS S8
  go_wp2_with fail
  go_ret
  exact ⟨rfl, S9.out.tail.tail⟩
 ·refine (l24inked_is H4.out HT.out S1.out).mono ?_
  rintro e w3 ⟨rfl, hS⟩
  clear hx5 hf5 hz5 hr5 hp5 hs5 hq5 hxx hfx hzx
  have S2 := Lib.hid hS
  clear hS S1
  obtain ⟨hx5, hf5, hz5, hr5, hp5, hs5, hq5⟩ := (S2.out.box (k := 0) rfl).act24
  obtain ⟨mr, ro, hxx, hfx, hzx⟩ := refFacts S2.out (k := 2) rfl
  go_wp2_with fail
  refine (rleave_at S2.out (k := 2) rfl (fun os1 h => rLeave_front a.n a.q h HG.out)).mono ?_
  rintro e w5 ⟨rfl, hS⟩
  clear hx5 hf5 hz5 hr5 hp5 hs5 hq5 hxx hfx hzx
  have S7 := Lib.hid hS
  clear hS S2
  go_upto_region 25 with (fail)
  refine at_objsC (S7.out.alloc1 (c1 := sv ((lvS a.n s).getD saved0)) (t1 := 35)) (fun W8 hW => ?_)
  generalize w5.heap.size = b10 at hW ⊢
  have S8 := Lib.hid hW
  clear hW S7
  obtain ⟨hx5, hf5, hz5, hr5, hp5, hs5, hq5⟩ := (S8.out.box (k := 1) rfl).act24
  obtain ⟨hx10, hf10, hz10, hr10, hp10⟩ := (S8.out.box (k := 0) rfl).saved
  go_wp2_with fail
  refine (leaves_true S8.out (fun bs W h => by have h := front_at (k := 2) (bs := bs) rfl h (fun os1 h => Leave_yes a.n a.q HT.out h HG.out HE.out); exact h)).mono ?_
  rintro e w6 ⟨rfl, hS⟩
  clear hx5 hf5 hz5 hr5 hp5 hs5 hq5 hx10 hf10 hz10 hr10 hp10
  have S9 := Lib.hid hS
  clear hS S8
  go_wp2_with fail
  go_ret
  exact ⟨rfl, S9.out.tail.tail⟩
 ·refine (leaves_true S1.out (fun bs W h => by have h := front_at (k := 1) (bs := bs) rfl h (fun os1 h => Leave_er a.n a.q HE.out (by decide) HT.out h); exact h)).mono ?_
  rintro e w4 ⟨rfl, hS⟩
  clear hx5 hf5 hz5 hr5 hp5 hs5 hq5 hxx hfx hzx
  have S2 := Lib.hid hS
  clear hS S1
  go_wp2_with fail
  go_ret
  exact ⟨rfl, S2.out.tail⟩
 ·refine (l24inked_is H4.out HT.out S1.out).mono ?_
  rintro e w3 ⟨rfl, hS⟩
  clear hx5 hf5 hz5 hr5 hp5 hs5 hq5 hxx hfx hzx
  have S2 := Lib.hid hS
  clear hS S1
  obtain ⟨hx5, hf5, hz5, hr5, hp5, hs5, hq5⟩ := (S2.out.box (k := 0) rfl).act24
  obtain ⟨mr, ro, hxx, hfx, hzx⟩ := refFacts S2.out (k := 2) rfl
  go_wp2_with fail
  refine (leaves_true S2.out (fun bs W h => by have h := front_at (k := 1) (bs := bs) rfl h (fun os1 h => Leave_er a.n a.q HE.out (by decide) HT.out h); exact h)).mono ?_
  rintro e w4 ⟨rfl, hS⟩
  clear hx5 hf5 hz5 hr5 hp5 hs5 hq5 hxx hfx hzx
  have S3 := Lib.hid hS
  clear hS S2
  go_wp2_with fail
  go_ret
  exact ⟨rfl, S3.out.tail⟩
 ·refine (l24inked_is H4.out HT.out S1.out).mono ?_
  rintro e w3 ⟨rfl, hS⟩
  clear hx5 hf5 hz5 hr5 hp5 hs5 hq5 hxx hfx hzx
  have S2 := Lib.hid hS
  clear hS S1
  obtain ⟨hx5, hf5, hz5, hr5, hp5, hs5, hq5⟩ := (S2.out.box (k := 0) rfl).act24
  obtain ⟨mr, ro, hxx, hfx, hzx⟩ := refFacts S2.out (k := 2) rfl
  go_wp2_with fail
  refine (leaves_true S2.out (fun bs W h => by have h := front_at (k := 1) (bs := bs) rfl h (fun os1 h => Leave_er a.n a.q HE.out (by decide) HT.out h); exact h)).mono ?_
  rintro e w4 ⟨rfl, hS⟩
  clear hx5 hf5 hz5 hr5 hp5 hs5 hq5 hxx hfx hzx
  have S3 := Lib.hid hS
  clear hS S2
  go_wp2_with fail
  go_ret
  exact ⟨rfl, S3.out.tail⟩
 ·refine (leaves_true S1.out (fun bs W h => by have h := front_at (k := 1) (bs := bs) rfl h (fun os1 h => Leave_er a.n a.q HE.out (by decide) HT.out h); exact h)).mono ?_
  rintro e w4 ⟨rfl, hS⟩
  clear hx5 hf5 hz5 hr5 hp5 hs5 hq5 hxx hfx hzx
  have S2 := Lib.hid hS
  clear hS S1
  go_wp2_with fail
  go_ret
  exact ⟨rfl, S2.out.tail⟩
end
end Go.Proofs.YtdndoikgnohkkaaDoor

namespace Go.Proofs.YtdndoikgnohkkaaDoor
open Go.RowKit

def Ok24 (w : World) (a : Act24) : Prop := RdL w a.A a.c a.L ∧ a.c ≤ maxLen ∧ ∀ l ∈ a.L, l.1.length ≤ maxLen
def Few24 (a : Act24) : Prop := a.L.length ≤ 6 ∧ ∀ l ∈ a.L, l.1.length ≤ 12
def SmallE (l : List Act24) (e : Ending) : Prop := ∃ b : Bool, e = .returned (.bool b) ∧ (b = true → l.length ≤ 40 ∧ ∀ (i : Nat) (a : Act24), l[i]? = some a → Few24 a)
theorem rec_cell {w : World} {b o n j : Nat} {cs : Array Value} {v : Value} (h : recAt w b o n = some cs) (hv : cs[j]? = some v) : w.cell? ⟨b, o + j, none⟩ = some v :=
 (range_of_recAt h).2 j v (by simpa using hv)
set_option maxRecDepth 100000 in
set_option maxHeartbeats 8000000 in
theorem l24small_any (Al : Option Addr) (cl : Nat) (l : List Act24) (w : World) (hal : RdRec w Al cl 50 (l.map av24)) (hml : cl ≤ maxLen) (hok : ∀ a ∈ l, Ok24 w a) :
  Calls Tryd.prog 21 #[.slice Al l.length cl, .int .i64 40] w fun e w' => SmallE l e ∧ w = w' := by
 have HAL := Lib.hid hal
 have HOK := Lib.hid hok
 have hlm : l.length ≤ 9223372036854775807 := by have := hal.1; unfold maxLen at hml; simp at this; omega
 clear hal hml hok
 go_enter Tryd.func21, Tryd.ntmps21
 go_wp2_with fail
 go_loopw [5] (fun x wr => ∃ i : Nat, i ≤ l.length ∧ x = .int .i64 i ∧ w = wr ∧ Hid (∀ (j : Nat) (a : Act24), j < i → l[j]? = some a → Few24 a)) (fun x _ => l.length - (intOf x).toNat)
 case atStart => exact ⟨0, Nat.zero_le _, rfl, rfl, Lib.hid (fun j a h => by omega)⟩
 case round =>
  obtain ⟨i, hi, rfl, rfl, HF⟩ := hrel
  by_cases hlt : i < l.length ∧ i < 40
  case neg =>
   by_cases hil : i < l.length
   case pos =>
    have h1 : (i : Int) < (l.length : Int) := by omega
    have h2 : ¬ (i : Int) < 40 := by omega
    have h3 : ¬ (l.length : Int) ≤ 40 := by omega
    go_wp2_with fail
    go_ret
    exact ⟨⟨false, rfl, fun h => by cases h⟩, rfl⟩
   case neg =>
    have h1 : ¬ (i : Int) < (l.length : Int) := by omega
    have HE := Lib.hid (show i = l.length by omega)
    clear hlt
    go_wp2_with fail
    go_ret
    refine ⟨⟨decide ((l.length : Int) ≤ 40), rfl, fun h => ⟨by have := of_decide_eq_true h; omega, fun j a hj => HF.out j a (by have := (List.getElem?_eq_some_iff.1 hj).1; have := HE.out; omega) hj⟩⟩, rfl⟩
  obtain ⟨hil, hi4⟩ := hlt
  have h1 : (i : Int) < (l.length : Int) := by omega
  have h0 : (0 : Int) ≤ (i : Int) := by omega
  have h2 : (i : Int) < 40 := by omega
  obtain ⟨a, ha⟩ := get_of hil
  have HA := Lib.hid ha
  obtain ⟨b, off, rfl, hz, hr⟩ := HAL.out.at_ (i := i) (r := av24 a) (by simp [ha])
  have hc0 := rec_cell hr (av24_get0 a)
  have hc1 := rec_cell hr (av24_get1 a)
  have hc49 := rec_cell hr (av24_get49 a)
  have HK := Lib.hid (HOK.out a (List.mem_of_getElem? ha))
  have hL63 : a.L.length ≤ 9223372036854775807 := by have := HK.out.1.1; have := HK.out.2.1; unfold maxLen at this; omega
  simp only [Nat.add_zero] at hc0
  clear ha hr
  have hcc : (6 < a.L.length ∨ (a.L.length ≤ 6 ∧ a.what = 3 ∧ 12 < a.n ∧ a.n ≤ 1000)) ∨ (a.L.length ≤ 6 ∧ (¬ a.what = 3 ∨ (a.what = 3 ∧ a.n ≤ 12) ∨ (a.what = 3 ∧ 12 < a.n ∧ 1000 < a.n))) := by omega
  rcases hcc with hcc | ⟨h6, hcc⟩
  ·rcases hcc with h6 | ⟨h6, h7, h8, h9⟩
   case' inl => have g1 : (6 : Int) < (a.L.length : Int) := (by omega)
   case' inr => have g1 : ¬ (6 : Int) < (a.L.length : Int) := (by omega); have g2 := beq_yes h7; clear h7
   all_goals
    go_wp2_with fail
    go_ret
    exact ⟨⟨false, rfl, fun h => by cases h⟩, rfl⟩
  have g1 : ¬ (6 : Int) < (a.L.length : Int) := by omega
  rcases hcc with h7 | ⟨h7, h8⟩ | ⟨h7, h8, h9⟩
  case' inr.inl => have g2 := beq_no h7; clear h7
  case' inr.inr.inl => have g2 := beq_yes h7; have g3 : ¬ 12 < a.n := (by omega); clear h7
  case' inr.inr.inr => have g2 := beq_yes h7; have g3 : ¬ a.n ≤ 1000 := (by omega); clear h7
  all_goals
   go_wp2_with fail
   go_loopw [6] (fun x wr => ∃ k : Nat, k ≤ a.L.length ∧ x = .int .i64 k ∧ w = wr ∧ Hid (∀ (j : Nat) (y : Ln), j < k → a.L[j]? = some y → y.1.length ≤ 12)) (fun x _ => a.L.length - (intOf x).toNat)
   case atStart => exact ⟨0, Nat.zero_le _, rfl, rfl, Lib.hid (fun j a h => by omega)⟩
   case round =>
    obtain ⟨k, hk, rfl, rfl, HG⟩ := hrel
    by_cases hkl : k < a.L.length
    case pos =>
     have k1 : (k : Int) < (a.L.length : Int) := by omega
     have k0 : (0 : Int) ≤ (k : Int) := by omega
     obtain ⟨y, hy⟩ := get_of hkl
     obtain ⟨b2, o2, A2, c2, hA2, hz2, hd1, hd2, hrd⟩ := HK.out.1.at_ hy
     have hc49' : w.cell? ⟨b, off + i * 50 + 49, none⟩ = some (.slice (some ⟨b2, o2, none⟩) a.L.length a.c) := by rw [hc49, hA2]
     have HY := Lib.hid hy
     have hy63 : y.1.length ≤ 9223372036854775807 := by have := HK.out.2.2 y (List.mem_of_getElem? hy); unfold maxLen at this; omega
     clear hy hrd hA2
     by_cases h12 : 12 < y.1.length
     case pos =>
      have m1 : (12 : Int) < (y.1.length : Int) := by omega
      clear hc49
      go_wp2_with fail
      go_ret
      exact ⟨⟨false, rfl, fun h => by cases h⟩, rfl⟩
     case neg =>
      have m1 : ¬ (12 : Int) < (y.1.length : Int) := by omega
      have HN := Lib.hid (show ∀ (j : Nat) (z : Ln), j < k + 1 → a.L[j]? = some z → z.1.length ≤ 12 from fun j z hj hz => by
       by_cases hjk : j < k
       ·exact HG.out j z hjk hz
       ·obtain rfl : j = k := by omega
        rw [HY.out] at hz
        cases hz
        omega)
      clear hc49
      go_wp2_with fail
      go_roundw
      case rel => exact ⟨k + 1, by omega, by go_num, by trivial, HN⟩
      case measure => simp [intOf]; omega
    case neg =>
     have k1 : ¬ (k : Int) < (a.L.length : Int) := by omega
     have HN := Lib.hid (show ∀ (j : Nat) (z : Act24), j < i + 1 → l[j]? = some z → Few24 z from fun j z hj hz => by
      by_cases hji : j < i
      ·exact HF.out j z hji hz
      ·obtain rfl : j = i := by omega
       rw [HA.out] at hz
       cases hz
       exact ⟨h6, fun y hy => by
        obtain ⟨q, hq⟩ := List.getElem?_of_mem hy
        exact HG.out q y (by have := (List.getElem?_eq_some_iff.1 hq).1; omega) hq⟩)
     go_wp2_with fail
     go_roundw
     case rel => exact ⟨i + 1, by omega, by go_num, by trivial, HN⟩
     case measure => simp [intOf]; omega
end Go.Proofs.YtdndoikgnohkkaaDoor

namespace Go.Proofs.YtdndoikgnohkkaaDoor
open Go.RowKit

theorem hdrs_take {bs : List Value} {L : List Ln} (h : bs.length = L.length) {R : Nat} (hR : R ≤ L.length) : hdrs (bs.take R) (L.take R) = (hdrs bs L).take (R * 2) := by
 have h1 : hdrs bs L = hdrs (bs.take R) (L.take R) ++ hdrs (bs.drop R) (L.drop R) := by
  rw [← hdrs_append (by simp [h])]
  simp
 rw [h1, List.take_append_of_le_length (by rw [hdrs_length (by simp [h])]; simp; omega)]
 exact (List.take_of_length_le (by rw [hdrs_length (by simp [h])]; simp; omega)).symm
theorem own_prefix {w : World} {B k n m g c : Nat} {t : TypeId} {xs : List Value} (h : w.ownsRow B t k (.slice (some ⟨g, 0, none⟩) n c) n xs) (hm : m ≤ n) : w.ownsRow B t k (.slice (some ⟨g, 0, none⟩) m c) m (xs.take (m * k)) := by
 obtain ⟨hl, hb, hnc, hmx, cur, hg, hsz, htk⟩ := own_parts h
 have hmk : m * k ≤ xs.length := by rw [hl]; exact Nat.mul_le_mul_right k hm
 refine own_mk (by simp; omega) hb (by omega) hmx hg hsz ?_
 rw [List.length_take, Nat.min_eq_left hmk]
 conv => rhs; rw [← htk, List.take_take, Nat.min_eq_left hmk]
section
variable {w0 w : World} {os : List Ob} {L : List Ln}
theorem Objs.cutLines {k g n c R : Nat} (hS : Objs w0 w os) (hk : os[k]? = some (.lines (.slice (some ⟨g, 0, none⟩) n c) L)) (hR : R ≤ L.length) : Objs w0 w (os.set k (.lines (.slice (some ⟨g, 0, none⟩) R c) (L.take R))) := by
 refine hS.upd hk (fun F hF => ?_)
 obtain ⟨bs, h1, h2⟩ := hF
 obtain rfl : n = L.length := by obtain ⟨A', c', e, -⟩ := own_form h1.own; simp only [Value.slice.injEq] at e; exact e.2.1
 have hsub : ∀ b, LF (.slice (some ⟨g, 0, none⟩) R c) (bs.take R) none b → LF (.slice (some ⟨g, 0, none⟩) L.length c) bs none b := fun b hb => by
  rcases hb with hb | ⟨i, x, hi, hx, hb⟩
  ·exact .inl hb
  ·rw [List.getElem?_take] at hx
   split at hx
   ·exact .inr ⟨i, x, hi, hx, hb⟩
   ·cases hx
 refine ⟨LF (.slice (some ⟨g, 0, none⟩) R c) (bs.take R) none, Chg.refl _ _, ⟨bs.take R, ⟨by simp [h1.len], ?_, fun i b l hi hb hl => ?_, fun i j b d y hb hd hby hdy => ?_⟩, fun _ => Iff.rfl⟩, fun b hb => .inl ((h2 b).2 (hsub b hb))⟩
 ·have := own_prefix h1.own hR
  rw [← hdrs_take h1.len hR] at this
  simpa [Nat.min_eq_left hR] using this
 ·rw [List.getElem?_take] at hb hl
  split at hb
  ·rename_i hlt
   rw [if_pos hlt] at hl
   exact h1.rows i b l hi hb hl
  ·cases hb
 ·rw [List.getElem?_take] at hb hd
  split at hb
  ·split at hd
   ·exact h1.dist i j b d y hb hd hby hdy
   ·cases hd
  ·cases hb
end
end Go.Proofs.YtdndoikgnohkkaaDoor
