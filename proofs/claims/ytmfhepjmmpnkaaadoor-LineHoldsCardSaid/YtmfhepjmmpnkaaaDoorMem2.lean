/-
  More rules of the walk on whole cells: stored into any block that is known to be one cell; a pen stored into a cell; literals of slices of cells.
-/
import Derived.Test.YtmfhepjmmpnkaaaDoorFixP
set_option linter.unusedSimpArgs false
set_option linter.unusedVariables false
namespace Go.Proofs.YtmfhepjmmpnkaaaDoor
open Go.RowKit

/-- Block b is one variable of n cells of type t, none frozen. -/
def okBlk (w : World) (b n : Nat) (t : TypeId) : Bool := match w.heap[b]? with
  | some (.cells zs u fr) => decide (zs.size = n) && decide (u = t) && decide (fr = (0, 0))
  | _ => false
theorem okBlk_iff {w : World} {b n : Nat} {t : TypeId} : okBlk w b n t = true ↔ ∃ zs, Blk w b t zs ∧ zs.size = n := by
  unfold okBlk Blk
  constructor
  · intro h
    split at h
    · rename_i zs u fr hb
      simp only [Bool.and_eq_true, decide_eq_true_eq] at h
      obtain ⟨⟨h1, rfl⟩, rfl⟩ := h
      exact ⟨zs, hb, h1⟩
    · cases h
  · rintro ⟨zs, hb, hz⟩
    simp [hb, hz]
theorem Blk.okBlk {w : World} {b : Nat} {t : TypeId} {cs : Array Value} (h : Blk w b t cs) : okBlk w b cs.size t = true := okBlk_iff.2 ⟨cs, h, rfl⟩
@[go_sem] theorem okBlk_alloc (w : World) (o : Obj) (b n : Nat) (t : TypeId) (h : b < w.heap.size) : okBlk (w.alloc o) b n t = okBlk w b n t := by
  unfold okBlk; rw [Below.heap_alloc w o b h]
@[go_sem] theorem okBlk_new {b : Nat} (w : World) (cs : Array Value) (t : TypeId) (n : Nat) (hb : b = w.heap.size) : okBlk (w.alloc (.cells cs t)) b n t = decide (cs.size = n) := by
  subst hb; unfold okBlk; rw [heap_alloc_new]; simp
@[go_sem] theorem setRow_alloc_lt (w : World) (o : Obj) (g : Nat) (cs : Array Value) (h : g < w.heap.size) : (w.alloc o).setRow g cs = (w.setRow g cs).alloc o := by
  simp only [World.setRow, World.alloc]
  congr 1
  apply Array.ext_getElem?
  intro i
  simp only [Array.getElem?_modify, Array.getElem?_push, Array.size_modify]
  by_cases hi : g = i
  · subst hi; simp [show ¬ g = w.heap.size by omega]
  · simp [hi]
@[go_sem] theorem setRow_alloc_at {b : Nat} (w : World) (c c' : Array Value) (t : TypeId) (hb : b = w.heap.size) : (w.alloc (.cells c t)).setRow b c' = w.alloc (.cells c' t) := by
  subst hb; exact World.setRow_alloc_new w c c' t
@[go_sem] theorem okBlk_drew (w : World) (b n : Nat) (t : TypeId) : okBlk w.drew b n t = okBlk w b n t := rfl
@[go_sem] theorem setRow_drew (w : World) (g : Nat) (cs : Array Value) : w.drew.setRow g cs = (w.setRow g cs).drew := rfl
@[go_sem] theorem store_cv_any (w : World) (b : Nat) (c : Cell) (h : okBlk w b 16 30 = true) : (storeCells ⟨b, 0, none⟩ (cv c).toList 0).run Tryd.prog w = .ok () (w.setRow b (cv c)) := by
  obtain ⟨zs, hb, hz⟩ := okBlk_iff.1 h
  exact store_cv_row w b zs c hb hz
@[go_sem] theorem store_pv_any (w : World) (b : Nat) (p : Pen) (h : okBlk w b 11 27 = true) : (storeCells ⟨b, 0, none⟩ (pv p).toList 0).run Tryd.prog w = .ok () (w.setRow b (pv p)) := by
  obtain ⟨zs, hb, hz⟩ := okBlk_iff.1 h
  have := run_storeCells_at (P := Tryd.prog) b 0 27 (pv p).toList 0 zs w hb (by simp [pv_size, hz]) (pv_one p)
  rw [this]
  simp [pv_size, List.drop_eq_nil_of_le, hz]
theorem cv_putPen (c : Cell) (p : Pen) : ((cv c).toList.take 5 ++ (pv p).toList ++ (cv c).toList.drop 16).toArray = cv { c with pen := p } := by simp [cv, pv]
@[go_sem] theorem store_pen_new {b : Nat} (w : World) (c : Cell) (p : Pen) (hb : b = w.heap.size) : (storeCells ⟨b, 5, none⟩ (pv p).toList 0).run Tryd.prog (w.alloc (.cells (cv c) 30)) = .ok () (w.alloc (.cells (cv { c with pen := p }) 30)) := by
  subst hb
  have := run_storeCells_at (P := Tryd.prog) w.heap.size 5 30 (pv p).toList 0 (cv c) _ (heap_alloc_new w (.cells (cv c) 30)) (by simp [pv_size, cv_size]) (pv_one p)
  rw [this]
  simp only [Nat.add_zero, Array.length_toList, pv_size]
  rw [cv_putPen, World.setRow_alloc_new]

@[simp high, go_sem high] theorem pv_set10 (p : Pen) (n : Int) : (pv p).setIfInBounds 10 (.int .u8 n) = pv { p with fl := n } := by simp [pv]
/-- Some cells, one behind the other, as a block. -/
def fv (cs : List Cell) : Array Value := (flat cs).toArray
theorem RdC.lit (w : World) (cs : List Cell) : RdC (w.alloc (.cells (fv cs) 30)) (some ⟨w.heap.size, 0, none⟩) cs.length cs :=
  ⟨Nat.le_refl _, (fun h => by cases h), fun _ => ⟨w.heap.size, 0, rfl, by simp, by have := rangeAt_new w (fv cs) 30; simpa [fv] using this⟩⟩
theorem OwnC.lit (w : World) (B : Nat) (cs : List Cell) (hB : B ≤ w.heap.size) (hn : cs.length ≤ 1000000) : OwnC (w.alloc (.cells (fv cs) 30)) B (.slice (some ⟨w.heap.size, 0, none⟩) cs.length cs.length) cs :=
  ⟨flat_length cs, .inr ⟨w.heap.size, cs.length, fv cs, rfl, hB, heap_alloc_new w _, Nat.le_refl _, by simp only [maxLen]; omega, by simp [fv, flat_length], by simp [fv, flat_length, List.take_of_length_le]⟩⟩
section
variable {ops : Array Oper} {rest : List Oper} {o : Oper} {a : Act} {w : World} {Q : Exit → Act → World → Prop}
theorem wpList_run {w' : World} {v : Value} (hw : Region.wanted o (yielded ops a.tmps) = true) (hr : (execOp a.eval o).run Tryd.prog w = .ok (.value v) w') (h : wpList Tryd.prog ops Q rest (a.put o.dst v) w') : wpList Tryd.prog ops Q (o :: rest) a w := by
  refine wpList_step fun K hK => ?_
  rw [if_pos hw]
  unfold Oper.wp
  rw [hr]
  exact hK _ _ h
theorem exec_bs {n : Nat} {parts : Array (Nat × Operand)} {vs : Array (Nat × Value)} {v : Value} {w' : World} (ho : o.op = .buildSlice 43 n parts) (hv : (parts.map fun (i, x) => (i, a.eval x)) = vs) (hr : (Instr.buildSlice 43 n vs).run Tryd.prog w = .ok v w') : (execOp a.eval o).run Tryd.prog w = .ok (.value v) w' := by
  subst hv
  unfold execOp
  simp only [ho, Sem.run_bind, hr, Result.andThen_ok, Sem.run_pure]
theorem run_bs1 (c0 : Cell) (w : World) : (Instr.buildSlice 43 1 #[(0, .agg (cv c0))]).run Tryd.prog w = .ok (.slice (some ⟨w.heap.size, 0, none⟩) 1 1) (w.alloc (.cells (fv [c0]) 30)) := by kernel_rfl
theorem wpList_bs1 (hw : Region.wanted o (yielded ops a.tmps) = true) (x0 : Operand) (ho : o.op = .buildSlice 43 1 #[(0, x0)]) (c0 : Cell) (h0 : a.eval x0 = .agg (cv c0))
    (h : wpList Tryd.prog ops Q rest (a.put o.dst (.slice (some ⟨w.heap.size, 0, none⟩) 1 1)) (w.alloc (.cells (fv [c0]) 30))) : wpList Tryd.prog ops Q (o :: rest) a w :=
  wpList_run hw (exec_bs ho (by simp [h0]) (run_bs1 c0 w)) h
theorem run_bs2 (c0 c1 : Cell) (w : World) : (Instr.buildSlice 43 2 #[(0, .agg (cv c0)), (1, .agg (cv c1))]).run Tryd.prog w = .ok (.slice (some ⟨w.heap.size, 0, none⟩) 2 2) (w.alloc (.cells (fv [c0, c1]) 30)) := by kernel_rfl
theorem wpList_bs2 (hw : Region.wanted o (yielded ops a.tmps) = true) (x0 x1 : Operand) (ho : o.op = .buildSlice 43 2 #[(0, x0), (1, x1)]) (c0 c1 : Cell) (h0 : a.eval x0 = .agg (cv c0)) (h1 : a.eval x1 = .agg (cv c1))
    (h : wpList Tryd.prog ops Q rest (a.put o.dst (.slice (some ⟨w.heap.size, 0, none⟩) 2 2)) (w.alloc (.cells (fv [c0, c1]) 30))) : wpList Tryd.prog ops Q (o :: rest) a w :=
  wpList_run hw (exec_bs ho (by simp [h0, h1]) (run_bs2 c0 c1 w)) h
theorem run_bs3 (c0 c1 c2 : Cell) (w : World) : (Instr.buildSlice 43 3 #[(0, .agg (cv c0)), (1, .agg (cv c1)), (2, .agg (cv c2))]).run Tryd.prog w = .ok (.slice (some ⟨w.heap.size, 0, none⟩) 3 3) (w.alloc (.cells (fv [c0, c1, c2]) 30)) := by kernel_rfl
theorem wpList_bs3 (hw : Region.wanted o (yielded ops a.tmps) = true) (x0 x1 x2 : Operand) (ho : o.op = .buildSlice 43 3 #[(0, x0), (1, x1), (2, x2)]) (c0 c1 c2 : Cell) (h0 : a.eval x0 = .agg (cv c0)) (h1 : a.eval x1 = .agg (cv c1)) (h2 : a.eval x2 = .agg (cv c2))
    (h : wpList Tryd.prog ops Q rest (a.put o.dst (.slice (some ⟨w.heap.size, 0, none⟩) 3 3)) (w.alloc (.cells (fv [c0, c1, c2]) 30))) : wpList Tryd.prog ops Q (o :: rest) a w :=
  wpList_run hw (exec_bs ho (by simp [h0, h1, h2]) (run_bs3 c0 c1 c2 w)) h
theorem run_bs4 (c0 c1 c2 c3 : Cell) (w : World) : (Instr.buildSlice 43 4 #[(0, .agg (cv c0)), (1, .agg (cv c1)), (2, .agg (cv c2)), (3, .agg (cv c3))]).run Tryd.prog w = .ok (.slice (some ⟨w.heap.size, 0, none⟩) 4 4) (w.alloc (.cells (fv [c0, c1, c2, c3]) 30)) := by kernel_rfl
theorem wpList_bs4 (hw : Region.wanted o (yielded ops a.tmps) = true) (x0 x1 x2 x3 : Operand) (ho : o.op = .buildSlice 43 4 #[(0, x0), (1, x1), (2, x2), (3, x3)]) (c0 c1 c2 c3 : Cell) (h0 : a.eval x0 = .agg (cv c0)) (h1 : a.eval x1 = .agg (cv c1)) (h2 : a.eval x2 = .agg (cv c2)) (h3 : a.eval x3 = .agg (cv c3))
    (h : wpList Tryd.prog ops Q rest (a.put o.dst (.slice (some ⟨w.heap.size, 0, none⟩) 4 4)) (w.alloc (.cells (fv [c0, c1, c2, c3]) 30))) : wpList Tryd.prog ops Q (o :: rest) a w :=
  wpList_run hw (exec_bs ho (by simp [h0, h1, h2, h3]) (run_bs4 c0 c1 c2 c3 w)) h
theorem run_bs5 (c0 c1 c2 c3 c4 : Cell) (w : World) : (Instr.buildSlice 43 5 #[(0, .agg (cv c0)), (1, .agg (cv c1)), (2, .agg (cv c2)), (3, .agg (cv c3)), (4, .agg (cv c4))]).run Tryd.prog w = .ok (.slice (some ⟨w.heap.size, 0, none⟩) 5 5) (w.alloc (.cells (fv [c0, c1, c2, c3, c4]) 30)) := by kernel_rfl
theorem wpList_bs5 (hw : Region.wanted o (yielded ops a.tmps) = true) (x0 x1 x2 x3 x4 : Operand) (ho : o.op = .buildSlice 43 5 #[(0, x0), (1, x1), (2, x2), (3, x3), (4, x4)]) (c0 c1 c2 c3 c4 : Cell) (h0 : a.eval x0 = .agg (cv c0)) (h1 : a.eval x1 = .agg (cv c1)) (h2 : a.eval x2 = .agg (cv c2)) (h3 : a.eval x3 = .agg (cv c3)) (h4 : a.eval x4 = .agg (cv c4))
    (h : wpList Tryd.prog ops Q rest (a.put o.dst (.slice (some ⟨w.heap.size, 0, none⟩) 5 5)) (w.alloc (.cells (fv [c0, c1, c2, c3, c4]) 30))) : wpList Tryd.prog ops Q (o :: rest) a w :=
  wpList_run hw (exec_bs ho (by simp [h0, h1, h2, h3, h4]) (run_bs5 c0 c1 c2 c3 c4 w)) h
theorem run_bs6 (c0 c1 c2 c3 c4 c5 : Cell) (w : World) : (Instr.buildSlice 43 6 #[(0, .agg (cv c0)), (1, .agg (cv c1)), (2, .agg (cv c2)), (3, .agg (cv c3)), (4, .agg (cv c4)), (5, .agg (cv c5))]).run Tryd.prog w = .ok (.slice (some ⟨w.heap.size, 0, none⟩) 6 6) (w.alloc (.cells (fv [c0, c1, c2, c3, c4, c5]) 30)) := by kernel_rfl
theorem wpList_bs6 (hw : Region.wanted o (yielded ops a.tmps) = true) (x0 x1 x2 x3 x4 x5 : Operand) (ho : o.op = .buildSlice 43 6 #[(0, x0), (1, x1), (2, x2), (3, x3), (4, x4), (5, x5)]) (c0 c1 c2 c3 c4 c5 : Cell) (h0 : a.eval x0 = .agg (cv c0)) (h1 : a.eval x1 = .agg (cv c1)) (h2 : a.eval x2 = .agg (cv c2)) (h3 : a.eval x3 = .agg (cv c3)) (h4 : a.eval x4 = .agg (cv c4)) (h5 : a.eval x5 = .agg (cv c5))
    (h : wpList Tryd.prog ops Q rest (a.put o.dst (.slice (some ⟨w.heap.size, 0, none⟩) 6 6)) (w.alloc (.cells (fv [c0, c1, c2, c3, c4, c5]) 30))) : wpList Tryd.prog ops Q (o :: rest) a w :=
  wpList_run hw (exec_bs ho (by simp [h0, h1, h2, h3, h4, h5]) (run_bs6 c0 c1 c2 c3 c4 c5 w)) h
end
end Go.Proofs.YtmfhepjmmpnkaaaDoor
