/-
  Steps of regions that make memory: what each kind of operation on cells yields.
-/
import Derived.Test.YtmfhepjmmpnkaaaDoorGrow
import Derived.Test.YtmfhepjmmpnkaaaDoorMem2
set_option linter.unusedSimpArgs false
set_option linter.unusedVariables false
namespace Go.Proofs.YtmfhepjmmpnkaaaDoor
open Go.RowKit

/-- What is known of a value: it is this one; it is a slice of these cells. -/
inductive Sp where
  | val (v : Value)
  | cells (cs : List Cell)
def Sp.is : Sp → Value → World → Prop
  | .val v, u, _ => u = v
  | .cells cs, u, w => ∃ A c, u = .slice A cs.length c ∧ RdC w A c cs
theorem Sp.stab (s : Sp) {v : Value} {w1 w2 : World} (h : s.is v w1) (hb : Below w1.heap.size w1 w2) : s.is v w2 := by
  cases s with
  | val u => exact h
  | cells cs => obtain ⟨A, c, h1, h2⟩ := h; exact ⟨A, c, h1, h2.bel hb⟩
def spOf (l : List Sp) (i : Nat) : Value → World → Prop := (l.getD i (.val undef)).is
section
variable {ops : Array Oper} {Q : Exit → Act → World → Prop} {o : Oper} {a : Act} {w : World}
theorem gs_load {b : Nat} {c : Cell} {Φ : Value → World → Prop} (hw : Region.wanted o (yielded ops a.tmps) = true) (t : Tmp) (ho : o.op = .load 30 (.tmp t)) (ht : a.tmps.getD t undef = .pointer (some ⟨b, 0, none⟩)) (hc : cellAt w b 0 = some c) (hv : Φ (.agg (cv c)) w) : GStep Tryd.prog ops Q Φ o a w := by
  refine gstep_value (v := .agg (cv c)) (w2 := w) hw ?_ hv (Below.refl _ _)
  unfold execOp
  simp only [ho, Act.eval, ht]
  simp [go_sem, hc]
theorem gs_loadP {b : Nat} {p : Pen} {Φ : Value → World → Prop} (hw : Region.wanted o (yielded ops a.tmps) = true) (t : Tmp) (ho : o.op = .load 27 (.tmp t)) (ht : a.tmps.getD t undef = .pointer (some ⟨b, 0, none⟩)) (hc : penAt w b 0 = some p) (hv : Φ (.agg (pv p)) w) : GStep Tryd.prog ops Q Φ o a w := by
  refine gstep_value (v := .agg (pv p)) (w2 := w) hw ?_ hv (Below.refl _ _)
  unfold execOp
  simp only [ho, Act.eval, ht]
  simp [go_sem, hc]
theorem gs_zero {Φ : Value → World → Prop} (hw : Region.wanted o (yielded ops a.tmps) = true) (ho : o.op = .build 30 #[]) (hv : Φ (.agg (cv cell0)) w) : GStep Tryd.prog ops Q Φ o a w := by
  refine gstep_value (v := .agg (cv cell0)) (w2 := w) hw ?_ hv (Below.refl _ _)
  unfold execOp
  simp only [ho]
  simp [go_sem, cell0]
theorem gs_move {Φ : Value → World → Prop} {v : Value} (hw : Region.wanted o (yielded ops a.tmps) = true) (x : Operand) (ho : o.op = .move x) (hx : a.eval x = v) (hv : Φ v w) : GStep Tryd.prog ops Q Φ o a w := by
  refine gstep_value (v := v) (w2 := w) hw ?_ hv (Below.refl _ _)
  unfold execOp
  simp only [ho, hx]
  rfl
theorem gs_assign {Φ : Value → World → Prop} {v : Value} (hw : Region.wanted o (yielded ops a.tmps) = true) (x : Operand) (ho : o.op = .assign x) (hx : a.eval x = v) (hv : Φ v w) : GStep Tryd.prog ops Q Φ o a w := by
  refine gstep_value (v := v) (w2 := w) hw ?_ hv (Below.refl _ _)
  unfold execOp
  simp only [ho, hx]
  rfl
theorem gs_not {Φ : Value → World → Prop} {b : Bool} (hw : Region.wanted o (yielded ops a.tmps) = true) (x : Operand) (ho : o.op = .unOp .not 4 x) (hx : a.eval x = .bool b) (hv : Φ (.bool (!b)) w) : GStep Tryd.prog ops Q Φ o a w := by
  refine gstep_value (v := .bool (!b)) (w2 := w) hw ?_ hv (Below.refl _ _)
  unfold execOp
  simp only [ho, hx]
  simp [go_sem]
theorem gs_pick {Φ : Value → World → Prop} {b : Bool} {v : Value} (hw : Region.wanted o (yielded ops a.tmps) = true) (x y z : Operand) (ho : o.op = .pick x y z) (hx : a.eval x = .bool b) (hy : a.eval (if b = true then y else z) = v) (hv : Φ v w) : GStep Tryd.prog ops Q Φ o a w := by
  refine gstep_value (v := v) (w2 := w) hw ?_ hv (Below.refl _ _)
  unfold execOp
  subst hy
  cases b
  · simp only [ho, hx]; rfl
  · simp only [ho, hx]; rfl
theorem gs_call {Φ : Value → World → Prop} {f : FuncId} {xs : Array Operand} {args : Array Value} {ts : Array TypeId} (hw : Region.wanted o (yielded ops a.tmps) = true) (ho : o.op = .call { callee := .value (.func f), args := xs, argTypes := ts }) (hx : xs.map a.eval = args)
    (hf : ∀ (vs : Array Value) (w : World), (callFunc f vs).run Tryd.prog w = .ok (.enter f vs) w) (hc : Calls Tryd.prog f args w fun e w2 => ∃ v, e = .returned v ∧ Φ v w2 ∧ Below w.heap.size w w2) : GStep Tryd.prog ops Q Φ o a w := by
  refine gstep_call (f := f) (args := args) hw ?_ hc
  unfold execOp
  subst hx
  simp only [ho, resolve, invoke, Sem.run_bind, Sem.run_pure, Result.andThen_ok, Act.eval]
  simp [go_sem, hf]
theorem gs_bs1 (hw : Region.wanted o (yielded ops a.tmps) = true) (t0 : Tmp) (ho : o.op = .buildSlice 43 1 #[(0, .tmp t0)]) (c0 : Cell) (h0 : a.tmps.getD t0 undef = .agg (cv c0)) : GStep Tryd.prog ops Q (Sp.cells [c0]).is o a w :=
  gstep_value hw (exec_bs ho (by simp only [List.map_toArray, List.map_cons, List.map_nil, Act.eval, h0]) (run_bs1 c0 w)) ⟨_, _, rfl, RdC.lit w [c0]⟩ ((Below.refl _ _).alloc (Nat.le_refl _) _)
theorem gs_bs2 (hw : Region.wanted o (yielded ops a.tmps) = true) (t0 t1 : Tmp) (ho : o.op = .buildSlice 43 2 #[(0, .tmp t0), (1, .tmp t1)]) (c0 c1 : Cell) (h0 : a.tmps.getD t0 undef = .agg (cv c0)) (h1 : a.tmps.getD t1 undef = .agg (cv c1)) : GStep Tryd.prog ops Q (Sp.cells [c0, c1]).is o a w :=
  gstep_value hw (exec_bs ho (by simp only [List.map_toArray, List.map_cons, List.map_nil, Act.eval, h0, h1]) (run_bs2 c0 c1 w)) ⟨_, _, rfl, RdC.lit w [c0, c1]⟩ ((Below.refl _ _).alloc (Nat.le_refl _) _)
theorem gs_bs3 (hw : Region.wanted o (yielded ops a.tmps) = true) (t0 t1 t2 : Tmp) (ho : o.op = .buildSlice 43 3 #[(0, .tmp t0), (1, .tmp t1), (2, .tmp t2)]) (c0 c1 c2 : Cell) (h0 : a.tmps.getD t0 undef = .agg (cv c0)) (h1 : a.tmps.getD t1 undef = .agg (cv c1)) (h2 : a.tmps.getD t2 undef = .agg (cv c2)) : GStep Tryd.prog ops Q (Sp.cells [c0, c1, c2]).is o a w :=
  gstep_value hw (exec_bs ho (by simp only [List.map_toArray, List.map_cons, List.map_nil, Act.eval, h0, h1, h2]) (run_bs3 c0 c1 c2 w)) ⟨_, _, rfl, RdC.lit w [c0, c1, c2]⟩ ((Below.refl _ _).alloc (Nat.le_refl _) _)
theorem gs_bs4 (hw : Region.wanted o (yielded ops a.tmps) = true) (t0 t1 t2 t3 : Tmp) (ho : o.op = .buildSlice 43 4 #[(0, .tmp t0), (1, .tmp t1), (2, .tmp t2), (3, .tmp t3)]) (c0 c1 c2 c3 : Cell) (h0 : a.tmps.getD t0 undef = .agg (cv c0)) (h1 : a.tmps.getD t1 undef = .agg (cv c1)) (h2 : a.tmps.getD t2 undef = .agg (cv c2)) (h3 : a.tmps.getD t3 undef = .agg (cv c3)) : GStep Tryd.prog ops Q (Sp.cells [c0, c1, c2, c3]).is o a w :=
  gstep_value hw (exec_bs ho (by simp only [List.map_toArray, List.map_cons, List.map_nil, Act.eval, h0, h1, h2, h3]) (run_bs4 c0 c1 c2 c3 w)) ⟨_, _, rfl, RdC.lit w [c0, c1, c2, c3]⟩ ((Below.refl _ _).alloc (Nat.le_refl _) _)
theorem gs_bs5 (hw : Region.wanted o (yielded ops a.tmps) = true) (t0 t1 t2 t3 t4 : Tmp) (ho : o.op = .buildSlice 43 5 #[(0, .tmp t0), (1, .tmp t1), (2, .tmp t2), (3, .tmp t3), (4, .tmp t4)]) (c0 c1 c2 c3 c4 : Cell) (h0 : a.tmps.getD t0 undef = .agg (cv c0)) (h1 : a.tmps.getD t1 undef = .agg (cv c1)) (h2 : a.tmps.getD t2 undef = .agg (cv c2)) (h3 : a.tmps.getD t3 undef = .agg (cv c3)) (h4 : a.tmps.getD t4 undef = .agg (cv c4)) : GStep Tryd.prog ops Q (Sp.cells [c0, c1, c2, c3, c4]).is o a w :=
  gstep_value hw (exec_bs ho (by simp only [List.map_toArray, List.map_cons, List.map_nil, Act.eval, h0, h1, h2, h3, h4]) (run_bs5 c0 c1 c2 c3 c4 w)) ⟨_, _, rfl, RdC.lit w [c0, c1, c2, c3, c4]⟩ ((Below.refl _ _).alloc (Nat.le_refl _) _)
theorem gs_bs6 (hw : Region.wanted o (yielded ops a.tmps) = true) (t0 t1 t2 t3 t4 t5 : Tmp) (ho : o.op = .buildSlice 43 6 #[(0, .tmp t0), (1, .tmp t1), (2, .tmp t2), (3, .tmp t3), (4, .tmp t4), (5, .tmp t5)]) (c0 c1 c2 c3 c4 c5 : Cell) (h0 : a.tmps.getD t0 undef = .agg (cv c0)) (h1 : a.tmps.getD t1 undef = .agg (cv c1)) (h2 : a.tmps.getD t2 undef = .agg (cv c2)) (h3 : a.tmps.getD t3 undef = .agg (cv c3)) (h4 : a.tmps.getD t4 undef = .agg (cv c4)) (h5 : a.tmps.getD t5 undef = .agg (cv c5)) : GStep Tryd.prog ops Q (Sp.cells [c0, c1, c2, c3, c4, c5]).is o a w :=
  gstep_value hw (exec_bs ho (by simp only [List.map_toArray, List.map_cons, List.map_nil, Act.eval, h0, h1, h2, h3, h4, h5]) (run_bs6 c0 c1 c2 c3 c4 c5 w)) ⟨_, _, rfl, RdC.lit w [c0, c1, c2, c3, c4, c5]⟩ ((Below.refl _ _).alloc (Nat.le_refl _) _)
end
end Go.Proofs.YtmfhepjmmpnkaaaDoor
