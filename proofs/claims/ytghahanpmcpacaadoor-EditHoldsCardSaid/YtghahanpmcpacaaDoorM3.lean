/-
  Part 3 of the texts on which the proofs of this seat stand: each part says ahead of it what it shows.
-/
import Derived.Test.YtghahanpmcpacaaDoorM2
import Derived.Lib.MinMax

/-
  Clear and Shift of the program's grid.
-/
set_option linter.unusedSimpArgs false
set_option linter.unusedVariables false
namespace Go.Proofs.YtghahanpmcpacaaDoor
open Go.RowKit

/-- Cells moved to the right, to the left, by k. -/
def shiftR (j k : Nat) (q : Pen) (cs : List Cell) : List Cell := let l := brk (cs.length - k) (brk j cs); l.take j ++ (List.replicate k (blank q) ++ (l.drop j).take (cs.length - k - j))
def shiftL (j k : Nat) (q : Pen) (cs : List Cell) : List Cell := let l := brk (j + k) (brk j cs); l.take j ++ (l.drop (j + k) ++ List.replicate k (blank q))
theorem shiftR_length {j k : Nat} {q : Pen} {cs : List Cell} (h : j + k ≤ cs.length) : (shiftR j k q cs).length = cs.length := by
  simp only [shiftR, List.length_append, List.length_take, List.length_drop, List.length_replicate, brk_length]; omega
theorem shiftL_length {j k : Nat} {q : Pen} {cs : List Cell} (h : j + k ≤ cs.length) : (shiftL j k q cs).length = cs.length := by
  simp only [shiftL, List.length_append, List.length_take, List.length_drop, List.length_replicate, brk_length]; omega
/-- What the program's moves make: to the right. -/
theorem shiftR_is {j k : Nat} {q : Pen} {l : List Cell} (h : j + k ≤ l.length) :
    wipeC j k q (l.take (j + k) ++ ((l.drop j).take (l.length - k - j) ++ l.drop (j + k + (l.length - k - j)))) = l.take j ++ (List.replicate k (blank q) ++ (l.drop j).take (l.length - k - j)) := by
  unfold wipeC
  have e1 : l.drop (j + k + (l.length - k - j)) = [] := List.drop_eq_nil_of_le (by omega)
  rw [e1, List.append_nil]
  have hlen : (l.take (j + k)).length = j + k := by simp; omega
  rw [List.take_append_of_le_length (by omega), List.take_take, Nat.min_eq_left (by omega), List.drop_left' hlen]
  simp
theorem shiftL_is {j k : Nat} {q : Pen} {l : List Cell} (h : j + k ≤ l.length) :
    wipeC (l.length - k) k q (l.take j ++ ((l.drop (j + k)).take (l.length - (j + k)) ++ l.drop (j + (l.length - (j + k))))) = l.take j ++ (l.drop (j + k) ++ List.replicate k (blank q)) := by
  unfold wipeC
  have e1 : (l.drop (j + k)).take (l.length - (j + k)) = l.drop (j + k) := List.take_of_length_le (by simp)
  rw [e1]
  have hlen : (l.take j ++ l.drop (j + k)).length = l.length - k := by simp; omega
  rw [List.drop_eq_nil_of_le (i := l.length - k + k) (by simp only [List.length_append, List.length_take, List.length_drop]; omega), ← List.append_assoc, List.take_left' hlen, List.append_nil, List.append_assoc]
section
variable {w0 w : World} {os : List Ob} {p cols : Nat} {L : List Ln}
set_option maxRecDepth 100000 in
set_option maxHeartbeats 4000000 in
theorem Shift_right {i j k : Nat} {l : Ln} (q : Pen) (hT : Tabs w0) (hS : Objs w0 w (.grid p 37 cols L :: os)) (hc : 0 < cols) (hcm : cols ≤ 1000) (hl : L[i]? = some l) (hrow : l.1.length = cols) (hq : q.ok = true) (n : Int) (hj : j < cols) (hn : 0 < n) (hn2 : n ≤ 9223372036854775807) (hk : (k : Int) = min n ((cols - j : Nat) : Int)) :
    Calls Tryd.prog 75 #[.pointer (some ⟨p, 0, none⟩), .int .i64 i, .int .i64 j, .int .i64 n, .agg (pv q)] w fun e w' => e = .returned (.int .i64 0) ∧ Objs w0 w' (.grid p 37 cols (L.set i (shiftR j k q l.1, l.2)) :: os) := by
  have S := Lib.hid hS
  have hi : i < L.length := (List.getElem?_eq_some_iff.1 hl).1
  have HL := Lib.hid hl
  have HT := Lib.hid hT
  have HQ := Lib.hid hq
  have HROW := Lib.hid hrow
  have hlr : l.1.length ≤ 1000 := by omega
  have hlr2 : cols ≤ l.1.length := by omega
  have hlr3 : l.1.length ≤ cols := by omega
  have HE := Lib.hid (show atE i j cols L = 0 by unfold atE; rw [if_pos ⟨⟨by omega, by omega⟩, by omega, by omega⟩])
  have hkj : j + k ≤ cols := by omega
  have hk1 : 1 ≤ k := by omega
  have hn0 : (n == 0) = false := by simp; omega
  have HP := Lib.hid (show wipeC j (j + k - j) q ((brk (cols - k) (brk j l.1)).take (j + k) ++ (((brk (cols - k) (brk j l.1)).drop j).take (cols - k - j) ++ (brk (cols - k) (brk j l.1)).drop (j + k + (cols - k - j)))) = shiftR j k q l.1 by
    have hb : (brk (cols - k) (brk j l.1)).length = cols := by rw [brk_length, brk_length, hrow]
    have h := shiftR_is (j := j) (k := k) (q := q) (l := brk (cols - k) (brk j l.1)) (by omega)
    rw [hb] at h
    rw [show j + k - j = k by omega, h]
    unfold shiftR
    rw [hrow])
  have hmin : min n ((cols : Int) - j) = (k : Int) := by omega
  clear hS hT hl hrow hq hk
  go_enter Tryd.func75, Tryd.ntmps75
  go_wp2_with fail
  refine (at_any i j S.out.alloc1 (k := 1) rfl hc).mono ?_
  rw [HE.out]
  rintro e w1 ⟨rfl, hS⟩
  have S1 := Lib.hid hS
  obtain ⟨A0, c0, hB0, -, -⟩ := hS.gridRd (k := 1) rfl
  obtain ⟨hx0, hf0, hz0⟩ := hB0.facts
  obtain ⟨hx9, hf9, hz9, hp9⟩ := (hS.box (k := 0) rfl).pbox
  clear hS S hB0
  generalize w.heap.size = b9 at S1 hx9 hf9 hz9 hp9 ⊢
  go_wp2_with fail
  refine (inked_is HQ.out HT.out S1.out).mono ?_
  rintro e w2 ⟨rfl, hS⟩
  have S2 := Lib.hid hS
  clear hS hx0 hf0 hz0 hx9 hf9 hz9 hp9
  obtain ⟨v, b, hS3⟩ := S2.out.swap.openAt HL.out
  obtain ⟨A, c, rfl, hrd⟩ := hS3.cellsRd (k := 0) rfl
  have hnc : l.1.length ≤ c := hrd.1
  obtain ⟨g, rfl, -, -, -, -⟩ := (hS3.own (k := 0) rfl).head (by omega)
  obtain ⟨gr, cr, rfl, h1, h2, h3, h4, h5, h6, h7⟩ := hS3.linesxRd (k := 1) rfl
  obtain ⟨hx2, hf2, hz2⟩ := (hS3.box (k := 2) rfl).facts
  have hlen2 : L.length ≤ 9223372036854775807 := by unfold maxLen at h2; omega
  have S3 := Lib.hid hS3
  clear hS3 h1 h2 h6 hrd
  go_wp2_with fail
  refine (split_at (c := j) S3.out rfl rfl (by omega) (by omega)).mono ?_
  rintro e w4 ⟨rfl, hS4⟩
  have S4 := Lib.hid hS4
  obtain ⟨hx2, hf2, hz2⟩ := (hS4.box (k := 2) rfl).facts
  clear hS4 h4 h5 h7
  go_wp2_with fail
  refine (split_at (n := (cols : Int) - k) (c := cols - k) S4.out (by rw [brk_length]) (by omega) (by rw [brk_length]; omega) (by omega)).mono ?_
  rintro e w5 ⟨rfl, hS5⟩
  have S5 := Lib.hid hS5
  have HW1 := Lib.hid (show IntKind.i64.wrap ((j : Int) + k) = ((j + k : Nat) : Int) by rw [IntWalk.i64_in _ (by omega)]; omega)
  have HW2 := Lib.hid (show IntKind.i64.wrap ((cols : Int) - k) = ((cols - k : Nat) : Int) by rw [IntWalk.i64_in _ (by omega)]; omega)
  clear hmin hn0
  clear hS5 hx2 hf2 hz2
  go_upto_region 14 with (fail)
  refine wp_region_stage (w0 := w0) (os := os) (by kernel_rfl) (by kernel_rfl) (by kernel_rfl) [(0, 14, [], fun vs => .cells (.slice (some ⟨g, 0, none⟩) l.1.length c) ((brk (cols - k) (brk j l.1)).take (j + k) ++ (((brk (cols - k) (brk j l.1)).drop j).take (cols - k - j) ++ (brk (cols - k) (brk j l.1)).drop (j + k + (cols - k - j)))))] [[], [], [], [], [], [], [], [], [], [], [2], [], [], [], [0]] [.cells (.slice (some ⟨g, 0, none⟩) l.1.length c) (brk (cols - k) (brk j l.1)), .linesx (.slice (some ⟨gr, 0, none⟩) L.length cr) L i (.slice (some ⟨g, 0, none⟩) l.1.length c), .box p 37 #[.int .i64 ↑cols, .slice (some ⟨gr, 0, none⟩) L.length cr], .box b9 31 (pv q)] (fun i u => match i with | 0 => u = (.slice (some ⟨g, 0, none⟩) l.1.length c : Value) | 1 => u = (.int .i64 ↑j : Value) | 2 => u = (.int .i64 ↑k : Value) | 3 => u = (.int .i64 ↑(j + k) : Value) | 4 => u = (.slice (tailA (some ⟨g, 0, none⟩) c (j + k)) (l.1.length - (j + k)) (c - (j + k)) : Value) | 5 => u = (.slice (some ⟨g, 0, none⟩) l.1.length c : Value) | 6 => u = (.int .i64 ↑j : Value) | 7 => u = (.pointer (some ⟨p, 0, none⟩) : Value) | 8 => u = (.pointer (some ⟨p, 0, none⟩) : Value) | 9 => u = (.pointer (some ⟨p, 0, none⟩) : Value) | 10 => u = (.int .i64 ↑cols : Value) | 11 => u = (.int .i64 ↑k : Value) | 12 => u = (.int .i64 ↑(cols - k) : Value) | 13 => u = (.slice (some ⟨g, j * 16, none⟩) (cols - k - j) (c - j) : Value) | 14 => True | _ => True) (fun vs => [.cells (.slice (some ⟨g, 0, none⟩) l.1.length c) ((brk (cols - k) (brk j l.1)).take (j + k) ++ (((brk (cols - k) (brk j l.1)).drop j).take (cols - k - j) ++ (brk (cols - k) (brk j l.1)).drop (j + k + (cols - k - j)))), .linesx (.slice (some ⟨gr, 0, none⟩) L.length cr) L i (.slice (some ⟨g, 0, none⟩) l.1.length c), .box p 37 #[.int .i64 ↑cols, .slice (some ⟨gr, 0, none⟩) L.length cr], .box b9 31 (pv q)]) (by kernel_rfl) (fun vs => by rfl) S5.out ?_ ?_
  · refine SSteps.cons (fun a w' vs σ hS hl hs hk => ?_) ?_
    · have e12 : a.tmps.getD 12 undef = (.slice (some ⟨g, 0, none⟩) l.1.length c : Value) := (sk_old hk 12 (by kernel_rfl)).trans rfl
      have f12 := gd e12
      exact ro_pure (v := .slice (some ⟨g, 0, none⟩) l.1.length c) (wanted_none rfl) (by simp [execOp, Act.eval, e12, f12, go_sem]) (sp_same (by kernel_rfl) hl hs hS (show (.slice (some ⟨g, 0, none⟩) l.1.length c : Value) = _ from rfl)) trivial
    refine SSteps.cons (fun a w' vs σ hS hl hs hk => ?_) ?_
    · have e2 : a.tmps.getD 2 undef = (.int .i64 ↑j : Value) := (sk_old hk 2 (by kernel_rfl)).trans rfl
      have f2 := gd e2
      exact ro_pure (v := .int .i64 ↑j) (wanted_none rfl) (by simp [execOp, Act.eval, e2, f2, go_sem]) (sp_same (by kernel_rfl) hl hs hS (show (.int .i64 ↑j : Value) = _ from rfl)) trivial
    refine SSteps.cons (fun a w' vs σ hS hl hs hk => ?_) ?_
    · have e14 : a.tmps.getD 14 undef = (.int .i64 ↑k : Value) := (sk_old hk 14 (by kernel_rfl)).trans rfl
      have f14 := gd e14
      exact ro_pure (v := .int .i64 ↑k) (wanted_none rfl) (by simp [execOp, Act.eval, e14, f14, go_sem]) (sp_same (by kernel_rfl) hl hs hS (show (.int .i64 ↑k : Value) = _ from rfl)) trivial
    refine SSteps.cons (fun a w' vs σ hS hl hs hk => ?_) ?_
    · have e62 : a.tmps.getD 62 undef = (.int .i64 ↑j : Value) := (sk_val hk 1 (by kernel_rfl) rfl rfl).trans ((hk.1 1 (by kernel_rfl)).1)
      have f62 := gd e62
      have e63 : a.tmps.getD 63 undef = (.int .i64 ↑k : Value) := (sk_val hk 2 (by kernel_rfl) rfl rfl).trans ((hk.1 2 (by kernel_rfl)).1)
      have f63 := gd e63
      exact ro_pure (v := .int .i64 ↑(j + k)) (wanted_none rfl) (by simp [execOp, Act.eval, e62, f62, e63, f63, go_sem, HW1.out]) (sp_same (by kernel_rfl) hl hs hS (show (.int .i64 ↑(j + k) : Value) = _ from rfl)) trivial
    refine SSteps.cons (fun a w' vs σ hS hl hs hk => ?_) ?_
    · have e61 : a.tmps.getD 61 undef = (.slice (some ⟨g, 0, none⟩) l.1.length c : Value) := (sk_val hk 0 (by kernel_rfl) rfl rfl).trans ((hk.1 0 (by kernel_rfl)).1)
      have f61 := gd e61
      have e64 : a.tmps.getD 64 undef = (.int .i64 ↑(j + k) : Value) := (sk_val hk 3 (by kernel_rfl) rfl rfl).trans ((hk.1 3 (by kernel_rfl)).1)
      have f64 := gd e64
      exact rs_run (wanted_none rfl) (exec_slice rfl (by simp [Act.eval, e61, f61, e64, f64]) (by simp [Act.eval, e61, f61, e64, f64]; try rfl) (by simp [Act.eval, e61, f61, e64, f64]; try rfl) (run_from w' (some ⟨g, 0, none⟩) l.1.length c (j + k) (by omega) (by omega) (fun h => by cases h) (by omega))) (sp_same (by kernel_rfl) hl hs hS (show (.slice (tailA (some ⟨g, 0, none⟩) c (j + k)) (l.1.length - (j + k)) (c - (j + k)) : Value) = _ from rfl))
    refine SSteps.cons (fun a w' vs σ hS hl hs hk => ?_) ?_
    · have e12 : a.tmps.getD 12 undef = (.slice (some ⟨g, 0, none⟩) l.1.length c : Value) := (sk_old hk 12 (by kernel_rfl)).trans rfl
      have f12 := gd e12
      exact ro_pure (v := .slice (some ⟨g, 0, none⟩) l.1.length c) (wanted_none rfl) (by simp [execOp, Act.eval, e12, f12, go_sem]) (sp_same (by kernel_rfl) hl hs hS (show (.slice (some ⟨g, 0, none⟩) l.1.length c : Value) = _ from rfl)) trivial
    refine SSteps.cons (fun a w' vs σ hS hl hs hk => ?_) ?_
    · have e2 : a.tmps.getD 2 undef = (.int .i64 ↑j : Value) := (sk_old hk 2 (by kernel_rfl)).trans rfl
      have f2 := gd e2
      exact ro_pure (v := .int .i64 ↑j) (wanted_none rfl) (by simp [execOp, Act.eval, e2, f2, go_sem]) (sp_same (by kernel_rfl) hl hs hS (show (.int .i64 ↑j : Value) = _ from rfl)) trivial
    refine SSteps.cons (fun a w' vs σ hS hl hs hk => ?_) ?_
    · have e0 : a.tmps.getD 0 undef = (.pointer (some ⟨p, 0, none⟩) : Value) := (sk_old hk 0 (by kernel_rfl)).trans rfl
      have f0 := gd e0
      exact ro_pure (v := .pointer (some ⟨p, 0, none⟩)) (wanted_none rfl) (by simp [execOp, Act.eval, e0, f0, go_sem]) (sp_same (by kernel_rfl) hl hs hS (show (.pointer (some ⟨p, 0, none⟩) : Value) = _ from rfl)) trivial
    refine SSteps.cons (fun a w' vs σ hS hl hs hk => ?_) ?_
    · have e68 : a.tmps.getD 68 undef = (.pointer (some ⟨p, 0, none⟩) : Value) := (sk_val hk 7 (by kernel_rfl) rfl rfl).trans ((hk.1 7 (by kernel_rfl)).1)
      have f68 := gd e68
      exact ro_pure (v := .pointer (some ⟨p, 0, none⟩)) (wanted_none rfl) (by simp [execOp, Act.eval, e68, f68, go_sem]) (sp_same (by kernel_rfl) hl hs hS (show (.pointer (some ⟨p, 0, none⟩) : Value) = _ from rfl)) trivial
    refine SSteps.cons (fun a w' vs σ hS hl hs hk => ?_) ?_
    · have e69 : a.tmps.getD 69 undef = (.pointer (some ⟨p, 0, none⟩) : Value) := (sk_val hk 8 (by kernel_rfl) rfl rfl).trans ((hk.1 8 (by kernel_rfl)).1)
      have f69 := gd e69
      exact ro_pure (v := .pointer (some ⟨p, 0, none⟩)) (wanted_none rfl) (by simp [execOp, Act.eval, e69, f69, go_sem]) (sp_same (by kernel_rfl) hl hs hS (show (.pointer (some ⟨p, 0, none⟩) : Value) = _ from rfl)) trivial
    refine SSteps.cons (fun a w' vs σ hS hl hs hk => ?_) ?_
    · have e70 : a.tmps.getD 70 undef = (.pointer (some ⟨p, 0, none⟩) : Value) := (sk_val hk 9 (by kernel_rfl) rfl rfl).trans ((hk.1 9 (by kernel_rfl)).1)
      have f70 := gd e70
      have hx := (hS.box (sg (hs 2 (by decide)))).cell
      exact ro_pure (v := .int .i64 ↑cols) (wanted_none rfl) (by simp [execOp, Act.eval, e70, f70, go_sem, hx]) (sp_same (by kernel_rfl) hl hs hS (show (.int .i64 ↑cols : Value) = _ from rfl)) trivial
    refine SSteps.cons (fun a w' vs σ hS hl hs hk => ?_) ?_
    · have e14 : a.tmps.getD 14 undef = (.int .i64 ↑k : Value) := (sk_old hk 14 (by kernel_rfl)).trans rfl
      have f14 := gd e14
      exact ro_pure (v := .int .i64 ↑k) (wanted_none rfl) (by simp [execOp, Act.eval, e14, f14, go_sem]) (sp_same (by kernel_rfl) hl hs hS (show (.int .i64 ↑k : Value) = _ from rfl)) trivial
    refine SSteps.cons (fun a w' vs σ hS hl hs hk => ?_) ?_
    · have e71 : a.tmps.getD 71 undef = (.int .i64 ↑cols : Value) := (sk_val hk 10 (by kernel_rfl) rfl rfl).trans ((hk.1 10 (by kernel_rfl)).1)
      have f71 := gd e71
      have e72 : a.tmps.getD 72 undef = (.int .i64 ↑k : Value) := (sk_val hk 11 (by kernel_rfl) rfl rfl).trans ((hk.1 11 (by kernel_rfl)).1)
      have f72 := gd e72
      exact ro_pure (v := .int .i64 ↑(cols - k)) (wanted_none rfl) (by simp [execOp, Act.eval, e71, f71, e72, f72, go_sem, HW2.out]) (sp_same (by kernel_rfl) hl hs hS (show (.int .i64 ↑(cols - k) : Value) = _ from rfl)) trivial
    refine SSteps.cons (fun a w' vs σ hS hl hs hk => ?_) ?_
    · have e66 : a.tmps.getD 66 undef = (.slice (some ⟨g, 0, none⟩) l.1.length c : Value) := (sk_val hk 5 (by kernel_rfl) rfl rfl).trans ((hk.1 5 (by kernel_rfl)).1)
      have f66 := gd e66
      have e67 : a.tmps.getD 67 undef = (.int .i64 ↑j : Value) := (sk_val hk 6 (by kernel_rfl) rfl rfl).trans ((hk.1 6 (by kernel_rfl)).1)
      have f67 := gd e67
      have e73 : a.tmps.getD 73 undef = (.int .i64 ↑(cols - k) : Value) := (sk_val hk 12 (by kernel_rfl) rfl rfl).trans ((hk.1 12 (by kernel_rfl)).1)
      have f73 := gd e73
      exact rs_run (wanted_none rfl) (exec_slice rfl (by simp [Act.eval, e66, f66, e67, f67, e73, f73]) (by simp [Act.eval, e66, f66, e67, f67, e73, f73]; try rfl) (by simp [Act.eval, e66, f66, e67, f67, e73, f73]; try rfl) (run_mid w' g l.1.length c j (cols - k) (by omega) (by omega) (by omega) (by omega) (by omega))) (sp_same (by kernel_rfl) hl hs hS (show (.slice (some ⟨g, j * 16, none⟩) (cols - k - j) (c - j) : Value) = _ from rfl))
    refine SSteps.cons (fun a w' vs σ hS hl hs hk => ?_) ?_
    · have e65 : a.tmps.getD 65 undef = (.slice (tailA (some ⟨g, 0, none⟩) c (j + k)) (l.1.length - (j + k)) (c - (j + k)) : Value) := (sk_val hk 4 (by kernel_rfl) rfl rfl).trans ((hk.1 4 (by kernel_rfl)).1)
      have f65 := gd e65
      have e74 : a.tmps.getD 74 undef = (.slice (some ⟨g, j * 16, none⟩) (cols - k - j) (c - j) : Value) := (sk_val hk 13 (by kernel_rfl) rfl rfl).trans ((hk.1 13 (by kernel_rfl)).1)
      have f74 := gd e74
      have h0 : σ[0]? = some (.cells (.slice (some ⟨g, 0, none⟩) l.1.length c) (brk (cols - k) (brk j l.1))) := hs 0 (by decide)
      obtain ⟨W, hr, hW⟩ := run_copyO hS (sg h0) (j + k) (j) (cols - k - j) (tailA (some ⟨g, 0, none⟩) c (j + k)) (some ⟨g, j * 16, none⟩) (l.1.length - (j + k)) (c - (j + k)) (cols - k - j) (c - j) (by show min (cols - k - j) (l.1.length - (j + k)) = _; omega) (by rw [brk_length, brk_length]; omega) (by rw [brk_length, brk_length]; omega) (fun hp => ⟨tailA_at (by omega), rfl⟩) 3
      exact rs_run (wanted_none rfl) (exec_copy rfl (by simp only [Act.eval]; exact e65) (by simp only [Act.eval]; exact e74) hr) (sp_set 0 _ (by kernel_rfl) (by simp) (by decide) hl hs (by rfl) hW trivial)
    exact SSteps.nil
  · intro vs w' hS hv
    have q0 := (show vs 0 = (.slice (some ⟨g, 0, none⟩) l.1.length c : Value) from hv 0 (by decide))
    have q1 := (show vs 1 = (.int .i64 ↑j : Value) from hv 1 (by decide))
    have q2 := (show vs 2 = (.int .i64 ↑k : Value) from hv 2 (by decide))
    have q3 := (show vs 3 = (.int .i64 ↑(j + k) : Value) from hv 3 (by decide))
    have q4 := (show vs 4 = (.slice (tailA (some ⟨g, 0, none⟩) c (j + k)) (l.1.length - (j + k)) (c - (j + k)) : Value) from hv 4 (by decide))
    have q5 := (show vs 5 = (.slice (some ⟨g, 0, none⟩) l.1.length c : Value) from hv 5 (by decide))
    have q6 := (show vs 6 = (.int .i64 ↑j : Value) from hv 6 (by decide))
    have q7 := (show vs 7 = (.pointer (some ⟨p, 0, none⟩) : Value) from hv 7 (by decide))
    have q8 := (show vs 8 = (.pointer (some ⟨p, 0, none⟩) : Value) from hv 8 (by decide))
    have q9 := (show vs 9 = (.pointer (some ⟨p, 0, none⟩) : Value) from hv 9 (by decide))
    have q10 := (show vs 10 = (.int .i64 ↑cols : Value) from hv 10 (by decide))
    have q11 := (show vs 11 = (.int .i64 ↑k : Value) from hv 11 (by decide))
    have q12 := (show vs 12 = (.int .i64 ↑(cols - k) : Value) from hv 12 (by decide))
    have q13 := (show vs 13 = (.slice (some ⟨g, j * 16, none⟩) (cols - k - j) (c - j) : Value) from hv 13 (by decide))
    have S2 := Lib.hid hS
    simp only [putL, Act.put, Nat.zero_add, Nat.reduceAdd, List.setIfInBounds_toArray, List.set_cons_succ, List.set_cons_zero, q0, q1, q2, q3, q4, q5, q6, q7, q8, q9, q10, q11, q12, q13]
    clear hS hv q0 q1 q2 q3 q4 q5 q6 q7 q8 q9 q10 q11 q12 q13
    clear S5
    have S6 := S2
    clear S2
    have HCL := Lib.hid (show ((brk (cols - k) (brk j l.1)).take (j + k) ++ (((brk (cols - k) (brk j l.1)).drop j).take (cols - k - j) ++ (brk (cols - k) (brk j l.1)).drop (j + k + (cols - k - j)))).length = cols by simp only [List.length_append, List.length_take, List.length_drop, brk_length]; omega)
    go_upto_region 15 with (fail)
    refine wp_region_stage (w0 := w0) (os := os) (by kernel_rfl) (by kernel_rfl) (by kernel_rfl) [(0, 7, [], fun vs => .cells (.slice (some ⟨g, 0, none⟩) l.1.length c) (wipeC j (j + k - j) q ((brk (cols - k) (brk j l.1)).take (j + k) ++ (((brk (cols - k) (brk j l.1)).drop j).take (cols - k - j) ++ (brk (cols - k) (brk j l.1)).drop (j + k + (cols - k - j))))))] [[], [], [], [], [], [], [3], [0]] [.cells (.slice (some ⟨g, 0, none⟩) l.1.length c) ((brk (cols - k) (brk j l.1)).take (j + k) ++ (((brk (cols - k) (brk j l.1)).drop j).take (cols - k - j) ++ (brk (cols - k) (brk j l.1)).drop (j + k + (cols - k - j)))), .linesx (.slice (some ⟨gr, 0, none⟩) L.length cr) L i (.slice (some ⟨g, 0, none⟩) l.1.length c), .box p 37 #[.int .i64 ↑cols, .slice (some ⟨gr, 0, none⟩) L.length cr], .box b9 31 (pv q)] (fun i u => match i with | 0 => u = (.slice (some ⟨g, 0, none⟩) l.1.length c : Value) | 1 => u = (.int .i64 ↑j : Value) | 2 => u = (.int .i64 ↑j : Value) | 3 => u = (.int .i64 ↑k : Value) | 4 => u = (.int .i64 ↑(j + k) : Value) | 5 => u = (.slice (some ⟨g, j * 16, none⟩) (j + k - j) (c - j) : Value) | 6 => u = (.agg (pv q) : Value) | 7 => u = (.tuple #[] : Value) | _ => True) (fun vs => [.cells (.slice (some ⟨g, 0, none⟩) l.1.length c) (wipeC j (j + k - j) q ((brk (cols - k) (brk j l.1)).take (j + k) ++ (((brk (cols - k) (brk j l.1)).drop j).take (cols - k - j) ++ (brk (cols - k) (brk j l.1)).drop (j + k + (cols - k - j))))), .linesx (.slice (some ⟨gr, 0, none⟩) L.length cr) L i (.slice (some ⟨g, 0, none⟩) l.1.length c), .box p 37 #[.int .i64 ↑cols, .slice (some ⟨gr, 0, none⟩) L.length cr], .box b9 31 (pv q)]) (by kernel_rfl) (fun vs => by rfl) S6.out ?_ ?_
    · refine SSteps.cons (fun a w' vs σ hS hl hs hk => ?_) ?_
      · have e12 : a.tmps.getD 12 undef = (.slice (some ⟨g, 0, none⟩) l.1.length c : Value) := (sk_old hk 12 (by kernel_rfl)).trans rfl
        have f12 := gd e12
        exact ro_pure (v := .slice (some ⟨g, 0, none⟩) l.1.length c) (wanted_none rfl) (by simp [execOp, Act.eval, e12, f12, go_sem]) (sp_same (by kernel_rfl) hl hs hS (show (.slice (some ⟨g, 0, none⟩) l.1.length c : Value) = _ from rfl)) trivial
      refine SSteps.cons (fun a w' vs σ hS hl hs hk => ?_) ?_
      · have e2 : a.tmps.getD 2 undef = (.int .i64 ↑j : Value) := (sk_old hk 2 (by kernel_rfl)).trans rfl
        have f2 := gd e2
        exact ro_pure (v := .int .i64 ↑j) (wanted_none rfl) (by simp [execOp, Act.eval, e2, f2, go_sem]) (sp_same (by kernel_rfl) hl hs hS (show (.int .i64 ↑j : Value) = _ from rfl)) trivial
      refine SSteps.cons (fun a w' vs σ hS hl hs hk => ?_) ?_
      · have e2 : a.tmps.getD 2 undef = (.int .i64 ↑j : Value) := (sk_old hk 2 (by kernel_rfl)).trans rfl
        have f2 := gd e2
        exact ro_pure (v := .int .i64 ↑j) (wanted_none rfl) (by simp [execOp, Act.eval, e2, f2, go_sem]) (sp_same (by kernel_rfl) hl hs hS (show (.int .i64 ↑j : Value) = _ from rfl)) trivial
      refine SSteps.cons (fun a w' vs σ hS hl hs hk => ?_) ?_
      · have e14 : a.tmps.getD 14 undef = (.int .i64 ↑k : Value) := (sk_old hk 14 (by kernel_rfl)).trans rfl
        have f14 := gd e14
        exact ro_pure (v := .int .i64 ↑k) (wanted_none rfl) (by simp [execOp, Act.eval, e14, f14, go_sem]) (sp_same (by kernel_rfl) hl hs hS (show (.int .i64 ↑k : Value) = _ from rfl)) trivial
      refine SSteps.cons (fun a w' vs σ hS hl hs hk => ?_) ?_
      · have e78 : a.tmps.getD 78 undef = (.int .i64 ↑j : Value) := (sk_val hk 2 (by kernel_rfl) rfl rfl).trans ((hk.1 2 (by kernel_rfl)).1)
        have f78 := gd e78
        have e79 : a.tmps.getD 79 undef = (.int .i64 ↑k : Value) := (sk_val hk 3 (by kernel_rfl) rfl rfl).trans ((hk.1 3 (by kernel_rfl)).1)
        have f79 := gd e79
        exact ro_pure (v := .int .i64 ↑(j + k)) (wanted_none rfl) (by simp [execOp, Act.eval, e78, f78, e79, f79, go_sem, HW1.out]) (sp_same (by kernel_rfl) hl hs hS (show (.int .i64 ↑(j + k) : Value) = _ from rfl)) trivial
      refine SSteps.cons (fun a w' vs σ hS hl hs hk => ?_) ?_
      · have e76 : a.tmps.getD 76 undef = (.slice (some ⟨g, 0, none⟩) l.1.length c : Value) := (sk_val hk 0 (by kernel_rfl) rfl rfl).trans ((hk.1 0 (by kernel_rfl)).1)
        have f76 := gd e76
        have e77 : a.tmps.getD 77 undef = (.int .i64 ↑j : Value) := (sk_val hk 1 (by kernel_rfl) rfl rfl).trans ((hk.1 1 (by kernel_rfl)).1)
        have f77 := gd e77
        have e80 : a.tmps.getD 80 undef = (.int .i64 ↑(j + k) : Value) := (sk_val hk 4 (by kernel_rfl) rfl rfl).trans ((hk.1 4 (by kernel_rfl)).1)
        have f80 := gd e80
        exact rs_run (wanted_none rfl) (exec_slice rfl (by simp [Act.eval, e76, f76, e77, f77, e80, f80]) (by simp [Act.eval, e76, f76, e77, f77, e80, f80]; try rfl) (by simp [Act.eval, e76, f76, e77, f77, e80, f80]; try rfl) (run_mid w' g l.1.length c j (j + k) (by omega) (by omega) (by omega) (by omega) (by omega))) (sp_same (by kernel_rfl) hl hs hS (show (.slice (some ⟨g, j * 16, none⟩) (j + k - j) (c - j) : Value) = _ from rfl))
      refine SSteps.cons (fun a w' vs σ hS hl hs hk => ?_) ?_
      · have e9 : a.tmps.getD 9 undef = (.pointer (some ⟨b9, 0, none⟩) : Value) := (sk_old hk 9 (by kernel_rfl)).trans rfl
        have f9 := gd e9
        have hx := (hS.box (sg (hs 3 (by decide)))).penAt
        exact ro_pure (v := .agg (pv q)) (wanted_none rfl) (by simp [execOp, Act.eval, e9, f9, go_sem, hx]) (sp_same (by kernel_rfl) hl hs hS (show (.agg (pv q) : Value) = _ from rfl)) trivial
      refine SSteps.cons (fun a w' vs σ hS hl hs hk => ?_) ?_
      · have e81 : a.tmps.getD 81 undef = (.slice (some ⟨g, j * 16, none⟩) (j + k - j) (c - j) : Value) := (sk_val hk 5 (by kernel_rfl) rfl rfl).trans ((hk.1 5 (by kernel_rfl)).1)
        have f81 := gd e81
        have e82 : a.tmps.getD 82 undef = (.agg (pv q) : Value) := (sk_val hk 6 (by kernel_rfl) rfl rfl).trans ((hk.1 6 (by kernel_rfl)).1)
        have f82 := gd e82
        have h0 : σ[0]? = some (.cells (.slice (some ⟨g, 0, none⟩) l.1.length c) ((brk (cols - k) (brk j l.1)).take (j + k) ++ (((brk (cols - k) (brk j l.1)).drop j).take (cols - k - j) ++ (brk (cols - k) (brk j l.1)).drop (j + k + (cols - k - j))))) := hs 0 (by decide)
        exact ro_call (f := 89) (wanted_none rfl) rfl (by simp only [List.map_toArray, List.map_cons, List.map_nil, Act.eval, e81, e82] <;> rfl) (fun _ _ => by kernel_rfl) ((front_call hS (sg h0) (fun os1 h => wipe_front g l.1.length c (j) (j + k - j) (c - j) ((brk (cols - k) (brk j l.1)).take (j + k) ++ (((brk (cols - k) (brk j l.1)).drop j).take (cols - k - j) ++ (brk (cols - k) (brk j l.1)).drop (j + k + (cols - k - j)))) q w0 w' os1 h (by have := HCL.out; omega) (by omega) (by have := HCL.out; omega))).mono fun e w2 ⟨h1, h2⟩ => ⟨_, h1, sp_set 0 _ (by kernel_rfl) (by simp) (by decide) hl hs (by rfl) h2 rfl, trivial⟩)
      exact SSteps.nil
    · intro vs w' hS hv
      have q0 := (show vs 0 = (.slice (some ⟨g, 0, none⟩) l.1.length c : Value) from hv 0 (by decide))
      have q1 := (show vs 1 = (.int .i64 ↑j : Value) from hv 1 (by decide))
      have q2 := (show vs 2 = (.int .i64 ↑j : Value) from hv 2 (by decide))
      have q3 := (show vs 3 = (.int .i64 ↑k : Value) from hv 3 (by decide))
      have q4 := (show vs 4 = (.int .i64 ↑(j + k) : Value) from hv 4 (by decide))
      have q5 := (show vs 5 = (.slice (some ⟨g, j * 16, none⟩) (j + k - j) (c - j) : Value) from hv 5 (by decide))
      have q6 := (show vs 6 = (.agg (pv q) : Value) from hv 6 (by decide))
      have q7 := (show vs 7 = (.tuple #[] : Value) from hv 7 (by decide))
      have S2 := Lib.hid hS
      simp only [putL, Act.put, Nat.zero_add, Nat.reduceAdd, List.setIfInBounds_toArray, List.set_cons_succ, List.set_cons_zero, q0, q1, q2, q3, q4, q5, q6, q7]
      clear hS hv q0 q1 q2 q3 q4 q5 q6 q7
      have HF := (show Objs w0 w' (_ :: _ :: _ :: _ :: os) from S2.out).closeAt HL.out
      rw [HP.out] at HF
      go_wp2_with fail
      go_ret
      exact ⟨rfl, HF.drop2⟩
set_option maxRecDepth 100000 in
set_option maxHeartbeats 1000000 in
theorem Shift_none {row col n : Int} (q : Pen) (hT : Tabs w0) (hS : Objs w0 w (.grid p 37 cols L :: os)) (hc : 0 < cols) (hcm : cols ≤ 1000) (hin : (0 ≤ row ∧ row < L.length) ∧ 0 ≤ col ∧ col < cols) (hq : q.ok = true) (hn : n = 0) :
    Calls Tryd.prog 75 #[.pointer (some ⟨p, 0, none⟩), .int .i64 row, .int .i64 col, .int .i64 n, .agg (pv q)] w fun e w' => e = .returned (.int .i64 0) ∧ Objs w0 w' (.grid p 37 cols L :: os) := by
  have S := Lib.hid hS
  have HT := Lib.hid hT
  have HE := Lib.hid (show atE row col cols L = 0 by unfold atE; rw [if_pos hin])
  clear hin
  have HQ := Lib.hid hq
  subst hn
  clear hq
  clear hS hT
  go_enter Tryd.func75, Tryd.ntmps75
  go_wp2_with fail
  refine (at_any row col S.out.alloc1 (k := 1) rfl hc).mono ?_
  rw [HE.out]
  rintro e w1 ⟨rfl, hS⟩
  have S1 := Lib.hid hS
  obtain ⟨A0, c0, hB0, -, -⟩ := hS.gridRd (k := 1) rfl
  obtain ⟨hx0, hf0, hz0⟩ := hB0.facts
  obtain ⟨hx9, hf9, hz9, hp9⟩ := (hS.box (k := 0) rfl).pbox
  clear hS S hB0
  generalize w.heap.size = b9 at S1 hx9 hf9 hz9 hp9 ⊢
  go_wp2_with fail
  refine (inked_is HQ.out HT.out S1.out).mono ?_
  rintro e w2 ⟨rfl, hS⟩
  have S2 := Lib.hid hS
  clear hS
  go_wp2_with fail
  go_ret
  exact ⟨rfl, S2.out.tail⟩
set_option maxRecDepth 100000 in
set_option maxHeartbeats 4000000 in
theorem Shift_left1 {i j k : Nat} {l : Ln} (q : Pen) (hT : Tabs w0) (hS : Objs w0 w (.grid p 37 cols L :: os)) (hc : 0 < cols) (hcm : cols ≤ 1000) (hl : L[i]? = some l) (hrow : l.1.length = cols) (hq : q.ok = true) (hj : j < cols) (hk1 : 1 ≤ k) (hk2 : j + k < cols) :
    Calls Tryd.prog 75 #[.pointer (some ⟨p, 0, none⟩), .int .i64 i, .int .i64 j, .int .i64 (-(k : Int)), .agg (pv q)] w fun e w' => e = .returned (.int .i64 0) ∧ Objs w0 w' (.grid p 37 cols (L.set i (shiftL j k q l.1, l.2)) :: os) := by
  have S := Lib.hid hS
  have hi : i < L.length := (List.getElem?_eq_some_iff.1 hl).1
  have HL := Lib.hid hl
  have HT := Lib.hid hT
  have HQ := Lib.hid hq
  have HROW := Lib.hid hrow
  have hlr : l.1.length ≤ 1000 := by omega
  have hlr2 : cols ≤ l.1.length := by omega
  have hlr3 : l.1.length ≤ cols := by omega
  have HE := Lib.hid (show atE i j cols L = 0 by unfold atE; rw [if_pos ⟨⟨by omega, by omega⟩, by omega, by omega⟩])
  have hkj : j + k ≤ cols := by omega
  have hk1 : 1 ≤ k := by omega
  have hn0 : ((-(k : Int)) == 0) = false := by simp; omega
  have hng : ¬ (0 < -(k : Int)) := by omega
  have hcmp : -((cols : Int) - j) < -(k : Int) := by omega
  have HP := Lib.hid (show wipeC (cols - k) (l.1.length - (cols - k)) q ((brk (j + k) (brk j l.1)).take j ++ (((brk (j + k) (brk j l.1)).drop (j + k)).take (cols - (j + k)) ++ (brk (j + k) (brk j l.1)).drop (j + (cols - (j + k))))) = shiftL j k q l.1 by
    have hb : (brk (j + k) (brk j l.1)).length = cols := by rw [brk_length, brk_length, hrow]
    have h := shiftL_is (j := j) (k := k) (q := q) (l := brk (j + k) (brk j l.1)) (by omega)
    rw [hb] at h
    rw [show l.1.length - (cols - k) = k by omega, h]
    rfl)
  clear hS hT hl hrow hq
  go_enter Tryd.func75, Tryd.ntmps75
  go_wp2_with fail
  refine (at_any i j S.out.alloc1 (k := 1) rfl hc).mono ?_
  rw [HE.out]
  rintro e w1 ⟨rfl, hS⟩
  have S1 := Lib.hid hS
  obtain ⟨A0, c0, hB0, -, -⟩ := hS.gridRd (k := 1) rfl
  obtain ⟨hx0, hf0, hz0⟩ := hB0.facts
  obtain ⟨hx9, hf9, hz9, hp9⟩ := (hS.box (k := 0) rfl).pbox
  clear hS S hB0
  generalize w.heap.size = b9 at S1 hx9 hf9 hz9 hp9 ⊢
  go_wp2_with fail
  refine (inked_is HQ.out HT.out S1.out).mono ?_
  rintro e w2 ⟨rfl, hS⟩
  have S2 := Lib.hid hS
  clear hS hx0 hf0 hz0 hx9 hf9 hz9 hp9
  obtain ⟨v, b, hS3⟩ := S2.out.swap.openAt HL.out
  obtain ⟨A, c, rfl, hrd⟩ := hS3.cellsRd (k := 0) rfl
  have hnc : l.1.length ≤ c := hrd.1
  obtain ⟨g, rfl, -, -, -, -⟩ := (hS3.own (k := 0) rfl).head (by omega)
  obtain ⟨gr, cr, rfl, h1, h2, h3, h4, h5, h6, h7⟩ := hS3.linesxRd (k := 1) rfl
  obtain ⟨hx2, hf2, hz2⟩ := (hS3.box (k := 2) rfl).facts
  have hlen2 : L.length ≤ 9223372036854775807 := by unfold maxLen at h2; omega
  have S3 := Lib.hid hS3
  clear hS3 h1 h2 h6 hrd
  go_wp2_with fail
  refine (split_at (c := j) S3.out rfl rfl (by omega) (by omega)).mono ?_
  rintro e w4 ⟨rfl, hS4⟩
  have S4 := Lib.hid hS4
  obtain ⟨hx2, hf2, hz2⟩ := (hS4.box (k := 2) rfl).facts
  clear hS4 h4 h5 h7
  go_wp2_with fail
  refine (split_at (c := j + k) S4.out (by rw [brk_length]) (by omega) (by rw [brk_length]; omega) (by omega)).mono ?_
  rintro e w5 ⟨rfl, hS5⟩
  have S5 := Lib.hid hS5
  have HW1 := Lib.hid (show IntKind.i64.wrap ((j : Int) + k) = ((j + k : Nat) : Int) by rw [IntWalk.i64_in _ (by omega)]; omega)
  have HW2 := Lib.hid (show IntKind.i64.wrap ((cols : Int) - k) = ((cols - k : Nat) : Int) by rw [IntWalk.i64_in _ (by omega)]; omega)
  clear hS5 hx2 hf2 hz2 hn0 hng hcmp
  go_upto_region 21 with (fail)
  refine wp_region_stage (w0 := w0) (os := os) (by kernel_rfl) (by kernel_rfl) (by kernel_rfl) [(0, 8, [], fun vs => .cells (.slice (some ⟨g, 0, none⟩) l.1.length c) ((brk (j + k) (brk j l.1)).take j ++ (((brk (j + k) (brk j l.1)).drop (j + k)).take (cols - (j + k)) ++ (brk (j + k) (brk j l.1)).drop (j + (cols - (j + k))))))] [[], [], [], [], [], [], [], [], [0]] [.cells (.slice (some ⟨g, 0, none⟩) l.1.length c) (brk (j + k) (brk j l.1)), .linesx (.slice (some ⟨gr, 0, none⟩) L.length cr) L i (.slice (some ⟨g, 0, none⟩) l.1.length c), .box p 37 #[.int .i64 ↑cols, .slice (some ⟨gr, 0, none⟩) L.length cr], .box b9 31 (pv q)] (fun i u => match i with | 0 => u = (.slice (some ⟨g, 0, none⟩) l.1.length c : Value) | 1 => u = (.int .i64 ↑j : Value) | 2 => u = (.slice (tailA (some ⟨g, 0, none⟩) c j) (l.1.length - j) (c - j) : Value) | 3 => u = (.slice (some ⟨g, 0, none⟩) l.1.length c : Value) | 4 => u = (.int .i64 ↑j : Value) | 5 => u = (.int .i64 ↑k : Value) | 6 => u = (.int .i64 ↑(j + k) : Value) | 7 => u = (.slice (tailA (some ⟨g, 0, none⟩) c (j + k)) (l.1.length - (j + k)) (c - (j + k)) : Value) | 8 => True | _ => True) (fun vs => [.cells (.slice (some ⟨g, 0, none⟩) l.1.length c) ((brk (j + k) (brk j l.1)).take j ++ (((brk (j + k) (brk j l.1)).drop (j + k)).take (cols - (j + k)) ++ (brk (j + k) (brk j l.1)).drop (j + (cols - (j + k))))), .linesx (.slice (some ⟨gr, 0, none⟩) L.length cr) L i (.slice (some ⟨g, 0, none⟩) l.1.length c), .box p 37 #[.int .i64 ↑cols, .slice (some ⟨gr, 0, none⟩) L.length cr], .box b9 31 (pv q)]) (by kernel_rfl) (fun vs => by rfl) S5.out ?_ ?_
  · refine SSteps.cons (fun a w' vs σ hS hl hs hk => ?_) ?_
    · have e12 : a.tmps.getD 12 undef = (.slice (some ⟨g, 0, none⟩) l.1.length c : Value) := (sk_old hk 12 (by kernel_rfl)).trans rfl
      have f12 := gd e12
      exact ro_pure (v := .slice (some ⟨g, 0, none⟩) l.1.length c) (wanted_none rfl) (by simp [execOp, Act.eval, e12, f12, go_sem]) (sp_same (by kernel_rfl) hl hs hS (show (.slice (some ⟨g, 0, none⟩) l.1.length c : Value) = _ from rfl)) trivial
    refine SSteps.cons (fun a w' vs σ hS hl hs hk => ?_) ?_
    · have e2 : a.tmps.getD 2 undef = (.int .i64 ↑j : Value) := (sk_old hk 2 (by kernel_rfl)).trans rfl
      have f2 := gd e2
      exact ro_pure (v := .int .i64 ↑j) (wanted_none rfl) (by simp [execOp, Act.eval, e2, f2, go_sem]) (sp_same (by kernel_rfl) hl hs hS (show (.int .i64 ↑j : Value) = _ from rfl)) trivial
    refine SSteps.cons (fun a w' vs σ hS hl hs hk => ?_) ?_
    · have e96 : a.tmps.getD 96 undef = (.slice (some ⟨g, 0, none⟩) l.1.length c : Value) := (sk_val hk 0 (by kernel_rfl) rfl rfl).trans ((hk.1 0 (by kernel_rfl)).1)
      have f96 := gd e96
      have e97 : a.tmps.getD 97 undef = (.int .i64 ↑j : Value) := (sk_val hk 1 (by kernel_rfl) rfl rfl).trans ((hk.1 1 (by kernel_rfl)).1)
      have f97 := gd e97
      exact rs_run (wanted_none rfl) (exec_slice rfl (by simp [Act.eval, e96, f96, e97, f97]) (by simp [Act.eval, e96, f96, e97, f97]; try rfl) (by simp [Act.eval, e96, f96, e97, f97]; try rfl) (run_from w' (some ⟨g, 0, none⟩) l.1.length c j (by omega) (by omega) (fun h => by cases h) (by omega))) (sp_same (by kernel_rfl) hl hs hS (show (.slice (tailA (some ⟨g, 0, none⟩) c j) (l.1.length - j) (c - j) : Value) = _ from rfl))
    refine SSteps.cons (fun a w' vs σ hS hl hs hk => ?_) ?_
    · have e12 : a.tmps.getD 12 undef = (.slice (some ⟨g, 0, none⟩) l.1.length c : Value) := (sk_old hk 12 (by kernel_rfl)).trans rfl
      have f12 := gd e12
      exact ro_pure (v := .slice (some ⟨g, 0, none⟩) l.1.length c) (wanted_none rfl) (by simp [execOp, Act.eval, e12, f12, go_sem]) (sp_same (by kernel_rfl) hl hs hS (show (.slice (some ⟨g, 0, none⟩) l.1.length c : Value) = _ from rfl)) trivial
    refine SSteps.cons (fun a w' vs σ hS hl hs hk => ?_) ?_
    · have e2 : a.tmps.getD 2 undef = (.int .i64 ↑j : Value) := (sk_old hk 2 (by kernel_rfl)).trans rfl
      have f2 := gd e2
      exact ro_pure (v := .int .i64 ↑j) (wanted_none rfl) (by simp [execOp, Act.eval, e2, f2, go_sem]) (sp_same (by kernel_rfl) hl hs hS (show (.int .i64 ↑j : Value) = _ from rfl)) trivial
    refine SSteps.cons (fun a w' vs σ hS hl hs hk => ?_) ?_
    · have e15 : a.tmps.getD 15 undef = (.int .i64 ↑k : Value) := (sk_old hk 15 (by kernel_rfl)).trans rfl
      have f15 := gd e15
      exact ro_pure (v := .int .i64 ↑k) (wanted_none rfl) (by simp [execOp, Act.eval, e15, f15, go_sem]) (sp_same (by kernel_rfl) hl hs hS (show (.int .i64 ↑k : Value) = _ from rfl)) trivial
    refine SSteps.cons (fun a w' vs σ hS hl hs hk => ?_) ?_
    · have e100 : a.tmps.getD 100 undef = (.int .i64 ↑j : Value) := (sk_val hk 4 (by kernel_rfl) rfl rfl).trans ((hk.1 4 (by kernel_rfl)).1)
      have f100 := gd e100
      have e101 : a.tmps.getD 101 undef = (.int .i64 ↑k : Value) := (sk_val hk 5 (by kernel_rfl) rfl rfl).trans ((hk.1 5 (by kernel_rfl)).1)
      have f101 := gd e101
      exact ro_pure (v := .int .i64 ↑(j + k)) (wanted_none rfl) (by simp [execOp, Act.eval, e100, f100, e101, f101, go_sem, HW1.out]) (sp_same (by kernel_rfl) hl hs hS (show (.int .i64 ↑(j + k) : Value) = _ from rfl)) trivial
    refine SSteps.cons (fun a w' vs σ hS hl hs hk => ?_) ?_
    · have e99 : a.tmps.getD 99 undef = (.slice (some ⟨g, 0, none⟩) l.1.length c : Value) := (sk_val hk 3 (by kernel_rfl) rfl rfl).trans ((hk.1 3 (by kernel_rfl)).1)
      have f99 := gd e99
      have e102 : a.tmps.getD 102 undef = (.int .i64 ↑(j + k) : Value) := (sk_val hk 6 (by kernel_rfl) rfl rfl).trans ((hk.1 6 (by kernel_rfl)).1)
      have f102 := gd e102
      exact rs_run (wanted_none rfl) (exec_slice rfl (by simp [Act.eval, e99, f99, e102, f102]) (by simp [Act.eval, e99, f99, e102, f102]; try rfl) (by simp [Act.eval, e99, f99, e102, f102]; try rfl) (run_from w' (some ⟨g, 0, none⟩) l.1.length c (j + k) (by omega) (by omega) (fun h => by cases h) (by omega))) (sp_same (by kernel_rfl) hl hs hS (show (.slice (tailA (some ⟨g, 0, none⟩) c (j + k)) (l.1.length - (j + k)) (c - (j + k)) : Value) = _ from rfl))
    refine SSteps.cons (fun a w' vs σ hS hl hs hk => ?_) ?_
    · have e98 : a.tmps.getD 98 undef = (.slice (tailA (some ⟨g, 0, none⟩) c j) (l.1.length - j) (c - j) : Value) := (sk_val hk 2 (by kernel_rfl) rfl rfl).trans ((hk.1 2 (by kernel_rfl)).1)
      have f98 := gd e98
      have e103 : a.tmps.getD 103 undef = (.slice (tailA (some ⟨g, 0, none⟩) c (j + k)) (l.1.length - (j + k)) (c - (j + k)) : Value) := (sk_val hk 7 (by kernel_rfl) rfl rfl).trans ((hk.1 7 (by kernel_rfl)).1)
      have f103 := gd e103
      have h0 : σ[0]? = some (.cells (.slice (some ⟨g, 0, none⟩) l.1.length c) (brk (j + k) (brk j l.1))) := hs 0 (by decide)
      obtain ⟨W, hr, hW⟩ := run_copyO hS (sg h0) (j) (j + k) (cols - (j + k)) (tailA (some ⟨g, 0, none⟩) c j) (tailA (some ⟨g, 0, none⟩) c (j + k)) (l.1.length - j) (c - j) (l.1.length - (j + k)) (c - (j + k)) (by show min (l.1.length - (j + k)) (l.1.length - j) = _; omega) (by rw [brk_length, brk_length]; omega) (by rw [brk_length, brk_length]; omega) (fun hp => ⟨tailA_at (by omega), tailA_at (by omega)⟩) 3
      exact rs_run (wanted_none rfl) (exec_copy rfl (by simp only [Act.eval]; exact e98) (by simp only [Act.eval]; exact e103) hr) (sp_set 0 _ (by kernel_rfl) (by simp) (by decide) hl hs (by rfl) hW trivial)
    exact SSteps.nil
  · intro vs w' hS hv
    have q0 := (show vs 0 = (.slice (some ⟨g, 0, none⟩) l.1.length c : Value) from hv 0 (by decide))
    have q1 := (show vs 1 = (.int .i64 ↑j : Value) from hv 1 (by decide))
    have q2 := (show vs 2 = (.slice (tailA (some ⟨g, 0, none⟩) c j) (l.1.length - j) (c - j) : Value) from hv 2 (by decide))
    have q3 := (show vs 3 = (.slice (some ⟨g, 0, none⟩) l.1.length c : Value) from hv 3 (by decide))
    have q4 := (show vs 4 = (.int .i64 ↑j : Value) from hv 4 (by decide))
    have q5 := (show vs 5 = (.int .i64 ↑k : Value) from hv 5 (by decide))
    have q6 := (show vs 6 = (.int .i64 ↑(j + k) : Value) from hv 6 (by decide))
    have q7 := (show vs 7 = (.slice (tailA (some ⟨g, 0, none⟩) c (j + k)) (l.1.length - (j + k)) (c - (j + k)) : Value) from hv 7 (by decide))
    have S2 := Lib.hid hS
    simp only [putL, Act.put, Nat.zero_add, Nat.reduceAdd, List.setIfInBounds_toArray, List.set_cons_succ, List.set_cons_zero, q0, q1, q2, q3, q4, q5, q6, q7]
    clear hS hv q0 q1 q2 q3 q4 q5 q6 q7
    clear S5
    have S6 := S2
    clear S2
    have HCL := Lib.hid (show ((brk (j + k) (brk j l.1)).take j ++ (((brk (j + k) (brk j l.1)).drop (j + k)).take (cols - (j + k)) ++ (brk (j + k) (brk j l.1)).drop (j + (cols - (j + k))))).length = cols by simp only [List.length_append, List.length_take, List.length_drop, brk_length]; omega)
    go_upto_region 22 with (fail)
    refine wp_region_stage (w0 := w0) (os := os) (by kernel_rfl) (by kernel_rfl) (by kernel_rfl) [(0, 9, [], fun vs => .cells (.slice (some ⟨g, 0, none⟩) l.1.length c) (wipeC (cols - k) (l.1.length - (cols - k)) q ((brk (j + k) (brk j l.1)).take j ++ (((brk (j + k) (brk j l.1)).drop (j + k)).take (cols - (j + k)) ++ (brk (j + k) (brk j l.1)).drop (j + (cols - (j + k)))))))] [[], [], [], [], [2], [], [], [], [3], [0]] [.cells (.slice (some ⟨g, 0, none⟩) l.1.length c) ((brk (j + k) (brk j l.1)).take j ++ (((brk (j + k) (brk j l.1)).drop (j + k)).take (cols - (j + k)) ++ (brk (j + k) (brk j l.1)).drop (j + (cols - (j + k))))), .linesx (.slice (some ⟨gr, 0, none⟩) L.length cr) L i (.slice (some ⟨g, 0, none⟩) l.1.length c), .box p 37 #[.int .i64 ↑cols, .slice (some ⟨gr, 0, none⟩) L.length cr], .box b9 31 (pv q)] (fun i u => match i with | 0 => u = (.slice (some ⟨g, 0, none⟩) l.1.length c : Value) | 1 => u = (.pointer (some ⟨p, 0, none⟩) : Value) | 2 => u = (.pointer (some ⟨p, 0, none⟩) : Value) | 3 => u = (.pointer (some ⟨p, 0, none⟩) : Value) | 4 => u = (.int .i64 ↑cols : Value) | 5 => u = (.int .i64 ↑k : Value) | 6 => u = (.int .i64 ↑(cols - k) : Value) | 7 => u = (.slice (tailA (some ⟨g, 0, none⟩) c (cols - k)) (l.1.length - (cols - k)) (c - (cols - k)) : Value) | 8 => u = (.agg (pv q) : Value) | 9 => u = (.tuple #[] : Value) | _ => True) (fun vs => [.cells (.slice (some ⟨g, 0, none⟩) l.1.length c) (wipeC (cols - k) (l.1.length - (cols - k)) q ((brk (j + k) (brk j l.1)).take j ++ (((brk (j + k) (brk j l.1)).drop (j + k)).take (cols - (j + k)) ++ (brk (j + k) (brk j l.1)).drop (j + (cols - (j + k)))))), .linesx (.slice (some ⟨gr, 0, none⟩) L.length cr) L i (.slice (some ⟨g, 0, none⟩) l.1.length c), .box p 37 #[.int .i64 ↑cols, .slice (some ⟨gr, 0, none⟩) L.length cr], .box b9 31 (pv q)]) (by kernel_rfl) (fun vs => by rfl) S6.out ?_ ?_
    · refine SSteps.cons (fun a w' vs σ hS hl hs hk => ?_) ?_
      · have e12 : a.tmps.getD 12 undef = (.slice (some ⟨g, 0, none⟩) l.1.length c : Value) := (sk_old hk 12 (by kernel_rfl)).trans rfl
        have f12 := gd e12
        exact ro_pure (v := .slice (some ⟨g, 0, none⟩) l.1.length c) (wanted_none rfl) (by simp [execOp, Act.eval, e12, f12, go_sem]) (sp_same (by kernel_rfl) hl hs hS (show (.slice (some ⟨g, 0, none⟩) l.1.length c : Value) = _ from rfl)) trivial
      refine SSteps.cons (fun a w' vs σ hS hl hs hk => ?_) ?_
      · have e0 : a.tmps.getD 0 undef = (.pointer (some ⟨p, 0, none⟩) : Value) := (sk_old hk 0 (by kernel_rfl)).trans rfl
        have f0 := gd e0
        exact ro_pure (v := .pointer (some ⟨p, 0, none⟩)) (wanted_none rfl) (by simp [execOp, Act.eval, e0, f0, go_sem]) (sp_same (by kernel_rfl) hl hs hS (show (.pointer (some ⟨p, 0, none⟩) : Value) = _ from rfl)) trivial
      refine SSteps.cons (fun a w' vs σ hS hl hs hk => ?_) ?_
      · have e106 : a.tmps.getD 106 undef = (.pointer (some ⟨p, 0, none⟩) : Value) := (sk_val hk 1 (by kernel_rfl) rfl rfl).trans ((hk.1 1 (by kernel_rfl)).1)
        have f106 := gd e106
        exact ro_pure (v := .pointer (some ⟨p, 0, none⟩)) (wanted_none rfl) (by simp [execOp, Act.eval, e106, f106, go_sem]) (sp_same (by kernel_rfl) hl hs hS (show (.pointer (some ⟨p, 0, none⟩) : Value) = _ from rfl)) trivial
      refine SSteps.cons (fun a w' vs σ hS hl hs hk => ?_) ?_
      · have e107 : a.tmps.getD 107 undef = (.pointer (some ⟨p, 0, none⟩) : Value) := (sk_val hk 2 (by kernel_rfl) rfl rfl).trans ((hk.1 2 (by kernel_rfl)).1)
        have f107 := gd e107
        exact ro_pure (v := .pointer (some ⟨p, 0, none⟩)) (wanted_none rfl) (by simp [execOp, Act.eval, e107, f107, go_sem]) (sp_same (by kernel_rfl) hl hs hS (show (.pointer (some ⟨p, 0, none⟩) : Value) = _ from rfl)) trivial
      refine SSteps.cons (fun a w' vs σ hS hl hs hk => ?_) ?_
      · have e108 : a.tmps.getD 108 undef = (.pointer (some ⟨p, 0, none⟩) : Value) := (sk_val hk 3 (by kernel_rfl) rfl rfl).trans ((hk.1 3 (by kernel_rfl)).1)
        have f108 := gd e108
        have hx := (hS.box (sg (hs 2 (by decide)))).cell
        exact ro_pure (v := .int .i64 ↑cols) (wanted_none rfl) (by simp [execOp, Act.eval, e108, f108, go_sem, hx]) (sp_same (by kernel_rfl) hl hs hS (show (.int .i64 ↑cols : Value) = _ from rfl)) trivial
      refine SSteps.cons (fun a w' vs σ hS hl hs hk => ?_) ?_
      · have e15 : a.tmps.getD 15 undef = (.int .i64 ↑k : Value) := (sk_old hk 15 (by kernel_rfl)).trans rfl
        have f15 := gd e15
        exact ro_pure (v := .int .i64 ↑k) (wanted_none rfl) (by simp [execOp, Act.eval, e15, f15, go_sem]) (sp_same (by kernel_rfl) hl hs hS (show (.int .i64 ↑k : Value) = _ from rfl)) trivial
      refine SSteps.cons (fun a w' vs σ hS hl hs hk => ?_) ?_
      · have e109 : a.tmps.getD 109 undef = (.int .i64 ↑cols : Value) := (sk_val hk 4 (by kernel_rfl) rfl rfl).trans ((hk.1 4 (by kernel_rfl)).1)
        have f109 := gd e109
        have e110 : a.tmps.getD 110 undef = (.int .i64 ↑k : Value) := (sk_val hk 5 (by kernel_rfl) rfl rfl).trans ((hk.1 5 (by kernel_rfl)).1)
        have f110 := gd e110
        exact ro_pure (v := .int .i64 ↑(cols - k)) (wanted_none rfl) (by simp [execOp, Act.eval, e109, f109, e110, f110, go_sem, HW2.out]) (sp_same (by kernel_rfl) hl hs hS (show (.int .i64 ↑(cols - k) : Value) = _ from rfl)) trivial
      refine SSteps.cons (fun a w' vs σ hS hl hs hk => ?_) ?_
      · have e105 : a.tmps.getD 105 undef = (.slice (some ⟨g, 0, none⟩) l.1.length c : Value) := (sk_val hk 0 (by kernel_rfl) rfl rfl).trans ((hk.1 0 (by kernel_rfl)).1)
        have f105 := gd e105
        have e111 : a.tmps.getD 111 undef = (.int .i64 ↑(cols - k) : Value) := (sk_val hk 6 (by kernel_rfl) rfl rfl).trans ((hk.1 6 (by kernel_rfl)).1)
        have f111 := gd e111
        exact rs_run (wanted_none rfl) (exec_slice rfl (by simp [Act.eval, e105, f105, e111, f111]) (by simp [Act.eval, e105, f105, e111, f111]; try rfl) (by simp [Act.eval, e105, f105, e111, f111]; try rfl) (run_from w' (some ⟨g, 0, none⟩) l.1.length c (cols - k) (by omega) (by omega) (fun h => by cases h) (by omega))) (sp_same (by kernel_rfl) hl hs hS (show (.slice (tailA (some ⟨g, 0, none⟩) c (cols - k)) (l.1.length - (cols - k)) (c - (cols - k)) : Value) = _ from rfl))
      refine SSteps.cons (fun a w' vs σ hS hl hs hk => ?_) ?_
      · have e9 : a.tmps.getD 9 undef = (.pointer (some ⟨b9, 0, none⟩) : Value) := (sk_old hk 9 (by kernel_rfl)).trans rfl
        have f9 := gd e9
        have hx := (hS.box (sg (hs 3 (by decide)))).penAt
        exact ro_pure (v := .agg (pv q)) (wanted_none rfl) (by simp [execOp, Act.eval, e9, f9, go_sem, hx]) (sp_same (by kernel_rfl) hl hs hS (show (.agg (pv q) : Value) = _ from rfl)) trivial
      refine SSteps.cons (fun a w' vs σ hS hl hs hk => ?_) ?_
      · have e112 : a.tmps.getD 112 undef = (.slice (tailA (some ⟨g, 0, none⟩) c (cols - k)) (l.1.length - (cols - k)) (c - (cols - k)) : Value) := (sk_val hk 7 (by kernel_rfl) rfl rfl).trans ((hk.1 7 (by kernel_rfl)).1)
        have f112 := gd e112
        have e113 : a.tmps.getD 113 undef = (.agg (pv q) : Value) := (sk_val hk 8 (by kernel_rfl) rfl rfl).trans ((hk.1 8 (by kernel_rfl)).1)
        have f113 := gd e113
        have h0 : σ[0]? = some (.cells (.slice (some ⟨g, 0, none⟩) l.1.length c) ((brk (j + k) (brk j l.1)).take j ++ (((brk (j + k) (brk j l.1)).drop (j + k)).take (cols - (j + k)) ++ (brk (j + k) (brk j l.1)).drop (j + (cols - (j + k)))))) := hs 0 (by decide)
        rw [tailA_at (by omega)] at e112
        exact ro_call (f := 89) (wanted_none rfl) rfl (by simp only [List.map_toArray, List.map_cons, List.map_nil, Act.eval, e112, e113] <;> rfl) (fun _ _ => by kernel_rfl) ((front_call hS (sg h0) (fun os1 h => wipe_front g l.1.length c (cols - k) (l.1.length - (cols - k)) (c - (cols - k)) ((brk (j + k) (brk j l.1)).take j ++ (((brk (j + k) (brk j l.1)).drop (j + k)).take (cols - (j + k)) ++ (brk (j + k) (brk j l.1)).drop (j + (cols - (j + k))))) q w0 w' os1 h (by have := HCL.out; omega) (by omega) (by have := HCL.out; omega))).mono fun e w2 ⟨h1, h2⟩ => ⟨_, h1, sp_set 0 _ (by kernel_rfl) (by simp) (by decide) hl hs (by rfl) h2 rfl, trivial⟩)
      exact SSteps.nil
    · intro vs w' hS hv
      have q0 := (show vs 0 = (.slice (some ⟨g, 0, none⟩) l.1.length c : Value) from hv 0 (by decide))
      have q1 := (show vs 1 = (.pointer (some ⟨p, 0, none⟩) : Value) from hv 1 (by decide))
      have q2 := (show vs 2 = (.pointer (some ⟨p, 0, none⟩) : Value) from hv 2 (by decide))
      have q3 := (show vs 3 = (.pointer (some ⟨p, 0, none⟩) : Value) from hv 3 (by decide))
      have q4 := (show vs 4 = (.int .i64 ↑cols : Value) from hv 4 (by decide))
      have q5 := (show vs 5 = (.int .i64 ↑k : Value) from hv 5 (by decide))
      have q6 := (show vs 6 = (.int .i64 ↑(cols - k) : Value) from hv 6 (by decide))
      have q7 := (show vs 7 = (.slice (tailA (some ⟨g, 0, none⟩) c (cols - k)) (l.1.length - (cols - k)) (c - (cols - k)) : Value) from hv 7 (by decide))
      have q8 := (show vs 8 = (.agg (pv q) : Value) from hv 8 (by decide))
      have q9 := (show vs 9 = (.tuple #[] : Value) from hv 9 (by decide))
      have S2 := Lib.hid hS
      simp only [putL, Act.put, Nat.zero_add, Nat.reduceAdd, List.setIfInBounds_toArray, List.set_cons_succ, List.set_cons_zero, q0, q1, q2, q3, q4, q5, q6, q7, q8, q9]
      clear hS hv q0 q1 q2 q3 q4 q5 q6 q7 q8 q9
      have HF := (show Objs w0 w' (_ :: _ :: _ :: _ :: os) from S2.out).closeAt HL.out
      rw [HP.out] at HF
      go_wp2_with fail
      go_ret
      exact ⟨rfl, HF.drop2⟩
set_option maxRecDepth 100000 in
set_option maxHeartbeats 4000000 in
theorem Shift_left2 {i j k : Nat} {l : Ln} (q : Pen) (hT : Tabs w0) (hS : Objs w0 w (.grid p 37 cols L :: os)) (hc : 0 < cols) (hcm : cols ≤ 1000) (hl : L[i]? = some l) (hrow : l.1.length = cols) (hq : q.ok = true) (n : Int) (hj : j < cols) (hk3 : j + k = cols) (hn : n ≤ -(k : Int)) (hn2 : -9223372036854775808 ≤ n) :
    Calls Tryd.prog 75 #[.pointer (some ⟨p, 0, none⟩), .int .i64 i, .int .i64 j, .int .i64 n, .agg (pv q)] w fun e w' => e = .returned (.int .i64 0) ∧ Objs w0 w' (.grid p 37 cols (L.set i (shiftL j k q l.1, l.2)) :: os) := by
  have S := Lib.hid hS
  have hi : i < L.length := (List.getElem?_eq_some_iff.1 hl).1
  have HL := Lib.hid hl
  have HT := Lib.hid hT
  have HQ := Lib.hid hq
  have HROW := Lib.hid hrow
  have hlr : l.1.length ≤ 1000 := by omega
  have hlr2 : cols ≤ l.1.length := by omega
  have hlr3 : l.1.length ≤ cols := by omega
  have HE := Lib.hid (show atE i j cols L = 0 by unfold atE; rw [if_pos ⟨⟨by omega, by omega⟩, by omega, by omega⟩])
  have hkj : j + k ≤ cols := by omega
  have hk1 : 1 ≤ k := by omega
  have hn0 : (n == 0) = false := by simp; omega
  have hng : ¬ (0 < n) := by omega
  have hcmp : ¬ (-((cols : Int) - j) < n) := by omega
  have hck : (cols : Int) - j = k := by omega
  have HP := Lib.hid (show wipeC (cols - k) (l.1.length - (cols - k)) q ((brk (j + k) (brk j l.1)).take j ++ (((brk (j + k) (brk j l.1)).drop (j + k)).take (cols - (j + k)) ++ (brk (j + k) (brk j l.1)).drop (j + (cols - (j + k))))) = shiftL j k q l.1 by
    have hb : (brk (j + k) (brk j l.1)).length = cols := by rw [brk_length, brk_length, hrow]
    have h := shiftL_is (j := j) (k := k) (q := q) (l := brk (j + k) (brk j l.1)) (by omega)
    rw [hb] at h
    rw [show l.1.length - (cols - k) = k by omega, h]
    rfl)
  clear hS hT hl hrow hq
  go_enter Tryd.func75, Tryd.ntmps75
  go_wp2_with fail
  refine (at_any i j S.out.alloc1 (k := 1) rfl hc).mono ?_
  rw [HE.out]
  rintro e w1 ⟨rfl, hS⟩
  have S1 := Lib.hid hS
  obtain ⟨A0, c0, hB0, -, -⟩ := hS.gridRd (k := 1) rfl
  obtain ⟨hx0, hf0, hz0⟩ := hB0.facts
  obtain ⟨hx9, hf9, hz9, hp9⟩ := (hS.box (k := 0) rfl).pbox
  clear hS S hB0
  generalize w.heap.size = b9 at S1 hx9 hf9 hz9 hp9 ⊢
  go_wp2_with fail
  refine (inked_is HQ.out HT.out S1.out).mono ?_
  rintro e w2 ⟨rfl, hS⟩
  have S2 := Lib.hid hS
  clear hS hx0 hf0 hz0 hx9 hf9 hz9 hp9
  obtain ⟨v, b, hS3⟩ := S2.out.swap.openAt HL.out
  obtain ⟨A, c, rfl, hrd⟩ := hS3.cellsRd (k := 0) rfl
  have hnc : l.1.length ≤ c := hrd.1
  obtain ⟨g, rfl, -, -, -, -⟩ := (hS3.own (k := 0) rfl).head (by omega)
  obtain ⟨gr, cr, rfl, h1, h2, h3, h4, h5, h6, h7⟩ := hS3.linesxRd (k := 1) rfl
  obtain ⟨hx2, hf2, hz2⟩ := (hS3.box (k := 2) rfl).facts
  have hlen2 : L.length ≤ 9223372036854775807 := by unfold maxLen at h2; omega
  have S3 := Lib.hid hS3
  clear hS3 h1 h2 h6 hrd
  go_wp2_with fail
  refine (split_at (c := j) S3.out rfl rfl (by omega) (by omega)).mono ?_
  rintro e w4 ⟨rfl, hS4⟩
  have S4 := Lib.hid hS4
  obtain ⟨hx2, hf2, hz2⟩ := (hS4.box (k := 2) rfl).facts
  clear hS4 h4 h5 h7
  go_wp2_with fail
  refine (split_at (c := j + k) S4.out (by rw [brk_length]) (by omega) (by rw [brk_length]; omega) (by omega)).mono ?_
  rintro e w5 ⟨rfl, hS5⟩
  have S5 := Lib.hid hS5
  have HW1 := Lib.hid (show IntKind.i64.wrap ((j : Int) + k) = ((j + k : Nat) : Int) by rw [IntWalk.i64_in _ (by omega)]; omega)
  have HW2 := Lib.hid (show IntKind.i64.wrap ((cols : Int) - k) = ((cols - k : Nat) : Int) by rw [IntWalk.i64_in _ (by omega)]; omega)
  clear hS5 hx2 hf2 hz2 hn0 hng hcmp
  go_upto_region 21 with (fail)
  refine wp_region_stage (w0 := w0) (os := os) (by kernel_rfl) (by kernel_rfl) (by kernel_rfl) [(0, 8, [], fun vs => .cells (.slice (some ⟨g, 0, none⟩) l.1.length c) ((brk (j + k) (brk j l.1)).take j ++ (((brk (j + k) (brk j l.1)).drop (j + k)).take (cols - (j + k)) ++ (brk (j + k) (brk j l.1)).drop (j + (cols - (j + k))))))] [[], [], [], [], [], [], [], [], [0]] [.cells (.slice (some ⟨g, 0, none⟩) l.1.length c) (brk (j + k) (brk j l.1)), .linesx (.slice (some ⟨gr, 0, none⟩) L.length cr) L i (.slice (some ⟨g, 0, none⟩) l.1.length c), .box p 37 #[.int .i64 ↑cols, .slice (some ⟨gr, 0, none⟩) L.length cr], .box b9 31 (pv q)] (fun i u => match i with | 0 => u = (.slice (some ⟨g, 0, none⟩) l.1.length c : Value) | 1 => u = (.int .i64 ↑j : Value) | 2 => u = (.slice (tailA (some ⟨g, 0, none⟩) c j) (l.1.length - j) (c - j) : Value) | 3 => u = (.slice (some ⟨g, 0, none⟩) l.1.length c : Value) | 4 => u = (.int .i64 ↑j : Value) | 5 => u = (.int .i64 ↑k : Value) | 6 => u = (.int .i64 ↑(j + k) : Value) | 7 => u = (.slice (tailA (some ⟨g, 0, none⟩) c (j + k)) (l.1.length - (j + k)) (c - (j + k)) : Value) | 8 => True | _ => True) (fun vs => [.cells (.slice (some ⟨g, 0, none⟩) l.1.length c) ((brk (j + k) (brk j l.1)).take j ++ (((brk (j + k) (brk j l.1)).drop (j + k)).take (cols - (j + k)) ++ (brk (j + k) (brk j l.1)).drop (j + (cols - (j + k))))), .linesx (.slice (some ⟨gr, 0, none⟩) L.length cr) L i (.slice (some ⟨g, 0, none⟩) l.1.length c), .box p 37 #[.int .i64 ↑cols, .slice (some ⟨gr, 0, none⟩) L.length cr], .box b9 31 (pv q)]) (by kernel_rfl) (fun vs => by rfl) S5.out ?_ ?_
  · refine SSteps.cons (fun a w' vs σ hS hl hs hk => ?_) ?_
    · have e12 : a.tmps.getD 12 undef = (.slice (some ⟨g, 0, none⟩) l.1.length c : Value) := (sk_old hk 12 (by kernel_rfl)).trans rfl
      have f12 := gd e12
      exact ro_pure (v := .slice (some ⟨g, 0, none⟩) l.1.length c) (wanted_none rfl) (by simp [execOp, Act.eval, e12, f12, go_sem]) (sp_same (by kernel_rfl) hl hs hS (show (.slice (some ⟨g, 0, none⟩) l.1.length c : Value) = _ from rfl)) trivial
    refine SSteps.cons (fun a w' vs σ hS hl hs hk => ?_) ?_
    · have e2 : a.tmps.getD 2 undef = (.int .i64 ↑j : Value) := (sk_old hk 2 (by kernel_rfl)).trans rfl
      have f2 := gd e2
      exact ro_pure (v := .int .i64 ↑j) (wanted_none rfl) (by simp [execOp, Act.eval, e2, f2, go_sem]) (sp_same (by kernel_rfl) hl hs hS (show (.int .i64 ↑j : Value) = _ from rfl)) trivial
    refine SSteps.cons (fun a w' vs σ hS hl hs hk => ?_) ?_
    · have e96 : a.tmps.getD 96 undef = (.slice (some ⟨g, 0, none⟩) l.1.length c : Value) := (sk_val hk 0 (by kernel_rfl) rfl rfl).trans ((hk.1 0 (by kernel_rfl)).1)
      have f96 := gd e96
      have e97 : a.tmps.getD 97 undef = (.int .i64 ↑j : Value) := (sk_val hk 1 (by kernel_rfl) rfl rfl).trans ((hk.1 1 (by kernel_rfl)).1)
      have f97 := gd e97
      exact rs_run (wanted_none rfl) (exec_slice rfl (by simp [Act.eval, e96, f96, e97, f97]) (by simp [Act.eval, e96, f96, e97, f97]; try rfl) (by simp [Act.eval, e96, f96, e97, f97]; try rfl) (run_from w' (some ⟨g, 0, none⟩) l.1.length c j (by omega) (by omega) (fun h => by cases h) (by omega))) (sp_same (by kernel_rfl) hl hs hS (show (.slice (tailA (some ⟨g, 0, none⟩) c j) (l.1.length - j) (c - j) : Value) = _ from rfl))
    refine SSteps.cons (fun a w' vs σ hS hl hs hk => ?_) ?_
    · have e12 : a.tmps.getD 12 undef = (.slice (some ⟨g, 0, none⟩) l.1.length c : Value) := (sk_old hk 12 (by kernel_rfl)).trans rfl
      have f12 := gd e12
      exact ro_pure (v := .slice (some ⟨g, 0, none⟩) l.1.length c) (wanted_none rfl) (by simp [execOp, Act.eval, e12, f12, go_sem]) (sp_same (by kernel_rfl) hl hs hS (show (.slice (some ⟨g, 0, none⟩) l.1.length c : Value) = _ from rfl)) trivial
    refine SSteps.cons (fun a w' vs σ hS hl hs hk => ?_) ?_
    · have e2 : a.tmps.getD 2 undef = (.int .i64 ↑j : Value) := (sk_old hk 2 (by kernel_rfl)).trans rfl
      have f2 := gd e2
      exact ro_pure (v := .int .i64 ↑j) (wanted_none rfl) (by simp [execOp, Act.eval, e2, f2, go_sem]) (sp_same (by kernel_rfl) hl hs hS (show (.int .i64 ↑j : Value) = _ from rfl)) trivial
    refine SSteps.cons (fun a w' vs σ hS hl hs hk => ?_) ?_
    · have e15 : a.tmps.getD 15 undef = (.int .i64 ↑k : Value) := (sk_old hk 15 (by kernel_rfl)).trans rfl
      have f15 := gd e15
      exact ro_pure (v := .int .i64 ↑k) (wanted_none rfl) (by simp [execOp, Act.eval, e15, f15, go_sem]) (sp_same (by kernel_rfl) hl hs hS (show (.int .i64 ↑k : Value) = _ from rfl)) trivial
    refine SSteps.cons (fun a w' vs σ hS hl hs hk => ?_) ?_
    · have e100 : a.tmps.getD 100 undef = (.int .i64 ↑j : Value) := (sk_val hk 4 (by kernel_rfl) rfl rfl).trans ((hk.1 4 (by kernel_rfl)).1)
      have f100 := gd e100
      have e101 : a.tmps.getD 101 undef = (.int .i64 ↑k : Value) := (sk_val hk 5 (by kernel_rfl) rfl rfl).trans ((hk.1 5 (by kernel_rfl)).1)
      have f101 := gd e101
      exact ro_pure (v := .int .i64 ↑(j + k)) (wanted_none rfl) (by simp [execOp, Act.eval, e100, f100, e101, f101, go_sem, HW1.out]) (sp_same (by kernel_rfl) hl hs hS (show (.int .i64 ↑(j + k) : Value) = _ from rfl)) trivial
    refine SSteps.cons (fun a w' vs σ hS hl hs hk => ?_) ?_
    · have e99 : a.tmps.getD 99 undef = (.slice (some ⟨g, 0, none⟩) l.1.length c : Value) := (sk_val hk 3 (by kernel_rfl) rfl rfl).trans ((hk.1 3 (by kernel_rfl)).1)
      have f99 := gd e99
      have e102 : a.tmps.getD 102 undef = (.int .i64 ↑(j + k) : Value) := (sk_val hk 6 (by kernel_rfl) rfl rfl).trans ((hk.1 6 (by kernel_rfl)).1)
      have f102 := gd e102
      exact rs_run (wanted_none rfl) (exec_slice rfl (by simp [Act.eval, e99, f99, e102, f102]) (by simp [Act.eval, e99, f99, e102, f102]; try rfl) (by simp [Act.eval, e99, f99, e102, f102]; try rfl) (run_from w' (some ⟨g, 0, none⟩) l.1.length c (j + k) (by omega) (by omega) (fun h => by cases h) (by omega))) (sp_same (by kernel_rfl) hl hs hS (show (.slice (tailA (some ⟨g, 0, none⟩) c (j + k)) (l.1.length - (j + k)) (c - (j + k)) : Value) = _ from rfl))
    refine SSteps.cons (fun a w' vs σ hS hl hs hk => ?_) ?_
    · have e98 : a.tmps.getD 98 undef = (.slice (tailA (some ⟨g, 0, none⟩) c j) (l.1.length - j) (c - j) : Value) := (sk_val hk 2 (by kernel_rfl) rfl rfl).trans ((hk.1 2 (by kernel_rfl)).1)
      have f98 := gd e98
      have e103 : a.tmps.getD 103 undef = (.slice (tailA (some ⟨g, 0, none⟩) c (j + k)) (l.1.length - (j + k)) (c - (j + k)) : Value) := (sk_val hk 7 (by kernel_rfl) rfl rfl).trans ((hk.1 7 (by kernel_rfl)).1)
      have f103 := gd e103
      have h0 : σ[0]? = some (.cells (.slice (some ⟨g, 0, none⟩) l.1.length c) (brk (j + k) (brk j l.1))) := hs 0 (by decide)
      obtain ⟨W, hr, hW⟩ := run_copyO hS (sg h0) (j) (j + k) (cols - (j + k)) (tailA (some ⟨g, 0, none⟩) c j) (tailA (some ⟨g, 0, none⟩) c (j + k)) (l.1.length - j) (c - j) (l.1.length - (j + k)) (c - (j + k)) (by show min (l.1.length - (j + k)) (l.1.length - j) = _; omega) (by rw [brk_length, brk_length]; omega) (by rw [brk_length, brk_length]; omega) (fun hp => ⟨tailA_at (by omega), tailA_at (by omega)⟩) 3
      exact rs_run (wanted_none rfl) (exec_copy rfl (by simp only [Act.eval]; exact e98) (by simp only [Act.eval]; exact e103) hr) (sp_set 0 _ (by kernel_rfl) (by simp) (by decide) hl hs (by rfl) hW trivial)
    exact SSteps.nil
  · intro vs w' hS hv
    have q0 := (show vs 0 = (.slice (some ⟨g, 0, none⟩) l.1.length c : Value) from hv 0 (by decide))
    have q1 := (show vs 1 = (.int .i64 ↑j : Value) from hv 1 (by decide))
    have q2 := (show vs 2 = (.slice (tailA (some ⟨g, 0, none⟩) c j) (l.1.length - j) (c - j) : Value) from hv 2 (by decide))
    have q3 := (show vs 3 = (.slice (some ⟨g, 0, none⟩) l.1.length c : Value) from hv 3 (by decide))
    have q4 := (show vs 4 = (.int .i64 ↑j : Value) from hv 4 (by decide))
    have q5 := (show vs 5 = (.int .i64 ↑k : Value) from hv 5 (by decide))
    have q6 := (show vs 6 = (.int .i64 ↑(j + k) : Value) from hv 6 (by decide))
    have q7 := (show vs 7 = (.slice (tailA (some ⟨g, 0, none⟩) c (j + k)) (l.1.length - (j + k)) (c - (j + k)) : Value) from hv 7 (by decide))
    have S2 := Lib.hid hS
    simp only [putL, Act.put, Nat.zero_add, Nat.reduceAdd, List.setIfInBounds_toArray, List.set_cons_succ, List.set_cons_zero, q0, q1, q2, q3, q4, q5, q6, q7]
    clear hS hv q0 q1 q2 q3 q4 q5 q6 q7
    clear S5
    have S6 := S2
    clear S2
    have HCL := Lib.hid (show ((brk (j + k) (brk j l.1)).take j ++ (((brk (j + k) (brk j l.1)).drop (j + k)).take (cols - (j + k)) ++ (brk (j + k) (brk j l.1)).drop (j + (cols - (j + k))))).length = cols by simp only [List.length_append, List.length_take, List.length_drop, brk_length]; omega)
    go_upto_region 22 with (fail)
    refine wp_region_stage (w0 := w0) (os := os) (by kernel_rfl) (by kernel_rfl) (by kernel_rfl) [(0, 9, [], fun vs => .cells (.slice (some ⟨g, 0, none⟩) l.1.length c) (wipeC (cols - k) (l.1.length - (cols - k)) q ((brk (j + k) (brk j l.1)).take j ++ (((brk (j + k) (brk j l.1)).drop (j + k)).take (cols - (j + k)) ++ (brk (j + k) (brk j l.1)).drop (j + (cols - (j + k)))))))] [[], [], [], [], [2], [], [], [], [3], [0]] [.cells (.slice (some ⟨g, 0, none⟩) l.1.length c) ((brk (j + k) (brk j l.1)).take j ++ (((brk (j + k) (brk j l.1)).drop (j + k)).take (cols - (j + k)) ++ (brk (j + k) (brk j l.1)).drop (j + (cols - (j + k))))), .linesx (.slice (some ⟨gr, 0, none⟩) L.length cr) L i (.slice (some ⟨g, 0, none⟩) l.1.length c), .box p 37 #[.int .i64 ↑cols, .slice (some ⟨gr, 0, none⟩) L.length cr], .box b9 31 (pv q)] (fun i u => match i with | 0 => u = (.slice (some ⟨g, 0, none⟩) l.1.length c : Value) | 1 => u = (.pointer (some ⟨p, 0, none⟩) : Value) | 2 => u = (.pointer (some ⟨p, 0, none⟩) : Value) | 3 => u = (.pointer (some ⟨p, 0, none⟩) : Value) | 4 => u = (.int .i64 ↑cols : Value) | 5 => u = (.int .i64 ↑k : Value) | 6 => u = (.int .i64 ↑(cols - k) : Value) | 7 => u = (.slice (tailA (some ⟨g, 0, none⟩) c (cols - k)) (l.1.length - (cols - k)) (c - (cols - k)) : Value) | 8 => u = (.agg (pv q) : Value) | 9 => u = (.tuple #[] : Value) | _ => True) (fun vs => [.cells (.slice (some ⟨g, 0, none⟩) l.1.length c) (wipeC (cols - k) (l.1.length - (cols - k)) q ((brk (j + k) (brk j l.1)).take j ++ (((brk (j + k) (brk j l.1)).drop (j + k)).take (cols - (j + k)) ++ (brk (j + k) (brk j l.1)).drop (j + (cols - (j + k)))))), .linesx (.slice (some ⟨gr, 0, none⟩) L.length cr) L i (.slice (some ⟨g, 0, none⟩) l.1.length c), .box p 37 #[.int .i64 ↑cols, .slice (some ⟨gr, 0, none⟩) L.length cr], .box b9 31 (pv q)]) (by kernel_rfl) (fun vs => by rfl) S6.out ?_ ?_
    · refine SSteps.cons (fun a w' vs σ hS hl hs hk => ?_) ?_
      · have e12 : a.tmps.getD 12 undef = (.slice (some ⟨g, 0, none⟩) l.1.length c : Value) := (sk_old hk 12 (by kernel_rfl)).trans rfl
        have f12 := gd e12
        exact ro_pure (v := .slice (some ⟨g, 0, none⟩) l.1.length c) (wanted_none rfl) (by simp [execOp, Act.eval, e12, f12, go_sem]) (sp_same (by kernel_rfl) hl hs hS (show (.slice (some ⟨g, 0, none⟩) l.1.length c : Value) = _ from rfl)) trivial
      refine SSteps.cons (fun a w' vs σ hS hl hs hk => ?_) ?_
      · have e0 : a.tmps.getD 0 undef = (.pointer (some ⟨p, 0, none⟩) : Value) := (sk_old hk 0 (by kernel_rfl)).trans rfl
        have f0 := gd e0
        exact ro_pure (v := .pointer (some ⟨p, 0, none⟩)) (wanted_none rfl) (by simp [execOp, Act.eval, e0, f0, go_sem]) (sp_same (by kernel_rfl) hl hs hS (show (.pointer (some ⟨p, 0, none⟩) : Value) = _ from rfl)) trivial
      refine SSteps.cons (fun a w' vs σ hS hl hs hk => ?_) ?_
      · have e106 : a.tmps.getD 106 undef = (.pointer (some ⟨p, 0, none⟩) : Value) := (sk_val hk 1 (by kernel_rfl) rfl rfl).trans ((hk.1 1 (by kernel_rfl)).1)
        have f106 := gd e106
        exact ro_pure (v := .pointer (some ⟨p, 0, none⟩)) (wanted_none rfl) (by simp [execOp, Act.eval, e106, f106, go_sem]) (sp_same (by kernel_rfl) hl hs hS (show (.pointer (some ⟨p, 0, none⟩) : Value) = _ from rfl)) trivial
      refine SSteps.cons (fun a w' vs σ hS hl hs hk => ?_) ?_
      · have e107 : a.tmps.getD 107 undef = (.pointer (some ⟨p, 0, none⟩) : Value) := (sk_val hk 2 (by kernel_rfl) rfl rfl).trans ((hk.1 2 (by kernel_rfl)).1)
        have f107 := gd e107
        exact ro_pure (v := .pointer (some ⟨p, 0, none⟩)) (wanted_none rfl) (by simp [execOp, Act.eval, e107, f107, go_sem]) (sp_same (by kernel_rfl) hl hs hS (show (.pointer (some ⟨p, 0, none⟩) : Value) = _ from rfl)) trivial
      refine SSteps.cons (fun a w' vs σ hS hl hs hk => ?_) ?_
      · have e108 : a.tmps.getD 108 undef = (.pointer (some ⟨p, 0, none⟩) : Value) := (sk_val hk 3 (by kernel_rfl) rfl rfl).trans ((hk.1 3 (by kernel_rfl)).1)
        have f108 := gd e108
        have hx := (hS.box (sg (hs 2 (by decide)))).cell
        exact ro_pure (v := .int .i64 ↑cols) (wanted_none rfl) (by simp [execOp, Act.eval, e108, f108, go_sem, hx]) (sp_same (by kernel_rfl) hl hs hS (show (.int .i64 ↑cols : Value) = _ from rfl)) trivial
      refine SSteps.cons (fun a w' vs σ hS hl hs hk => ?_) ?_
      · have e15 : a.tmps.getD 15 undef = (.int .i64 ↑k : Value) := (sk_old hk 15 (by kernel_rfl)).trans rfl
        have f15 := gd e15
        exact ro_pure (v := .int .i64 ↑k) (wanted_none rfl) (by simp [execOp, Act.eval, e15, f15, go_sem]) (sp_same (by kernel_rfl) hl hs hS (show (.int .i64 ↑k : Value) = _ from rfl)) trivial
      refine SSteps.cons (fun a w' vs σ hS hl hs hk => ?_) ?_
      · have e109 : a.tmps.getD 109 undef = (.int .i64 ↑cols : Value) := (sk_val hk 4 (by kernel_rfl) rfl rfl).trans ((hk.1 4 (by kernel_rfl)).1)
        have f109 := gd e109
        have e110 : a.tmps.getD 110 undef = (.int .i64 ↑k : Value) := (sk_val hk 5 (by kernel_rfl) rfl rfl).trans ((hk.1 5 (by kernel_rfl)).1)
        have f110 := gd e110
        exact ro_pure (v := .int .i64 ↑(cols - k)) (wanted_none rfl) (by simp [execOp, Act.eval, e109, f109, e110, f110, go_sem, HW2.out]) (sp_same (by kernel_rfl) hl hs hS (show (.int .i64 ↑(cols - k) : Value) = _ from rfl)) trivial
      refine SSteps.cons (fun a w' vs σ hS hl hs hk => ?_) ?_
      · have e105 : a.tmps.getD 105 undef = (.slice (some ⟨g, 0, none⟩) l.1.length c : Value) := (sk_val hk 0 (by kernel_rfl) rfl rfl).trans ((hk.1 0 (by kernel_rfl)).1)
        have f105 := gd e105
        have e111 : a.tmps.getD 111 undef = (.int .i64 ↑(cols - k) : Value) := (sk_val hk 6 (by kernel_rfl) rfl rfl).trans ((hk.1 6 (by kernel_rfl)).1)
        have f111 := gd e111
        exact rs_run (wanted_none rfl) (exec_slice rfl (by simp [Act.eval, e105, f105, e111, f111]) (by simp [Act.eval, e105, f105, e111, f111]; try rfl) (by simp [Act.eval, e105, f105, e111, f111]; try rfl) (run_from w' (some ⟨g, 0, none⟩) l.1.length c (cols - k) (by omega) (by omega) (fun h => by cases h) (by omega))) (sp_same (by kernel_rfl) hl hs hS (show (.slice (tailA (some ⟨g, 0, none⟩) c (cols - k)) (l.1.length - (cols - k)) (c - (cols - k)) : Value) = _ from rfl))
      refine SSteps.cons (fun a w' vs σ hS hl hs hk => ?_) ?_
      · have e9 : a.tmps.getD 9 undef = (.pointer (some ⟨b9, 0, none⟩) : Value) := (sk_old hk 9 (by kernel_rfl)).trans rfl
        have f9 := gd e9
        have hx := (hS.box (sg (hs 3 (by decide)))).penAt
        exact ro_pure (v := .agg (pv q)) (wanted_none rfl) (by simp [execOp, Act.eval, e9, f9, go_sem, hx]) (sp_same (by kernel_rfl) hl hs hS (show (.agg (pv q) : Value) = _ from rfl)) trivial
      refine SSteps.cons (fun a w' vs σ hS hl hs hk => ?_) ?_
      · have e112 : a.tmps.getD 112 undef = (.slice (tailA (some ⟨g, 0, none⟩) c (cols - k)) (l.1.length - (cols - k)) (c - (cols - k)) : Value) := (sk_val hk 7 (by kernel_rfl) rfl rfl).trans ((hk.1 7 (by kernel_rfl)).1)
        have f112 := gd e112
        have e113 : a.tmps.getD 113 undef = (.agg (pv q) : Value) := (sk_val hk 8 (by kernel_rfl) rfl rfl).trans ((hk.1 8 (by kernel_rfl)).1)
        have f113 := gd e113
        have h0 : σ[0]? = some (.cells (.slice (some ⟨g, 0, none⟩) l.1.length c) ((brk (j + k) (brk j l.1)).take j ++ (((brk (j + k) (brk j l.1)).drop (j + k)).take (cols - (j + k)) ++ (brk (j + k) (brk j l.1)).drop (j + (cols - (j + k)))))) := hs 0 (by decide)
        rw [tailA_at (by omega)] at e112
        exact ro_call (f := 89) (wanted_none rfl) rfl (by simp only [List.map_toArray, List.map_cons, List.map_nil, Act.eval, e112, e113] <;> rfl) (fun _ _ => by kernel_rfl) ((front_call hS (sg h0) (fun os1 h => wipe_front g l.1.length c (cols - k) (l.1.length - (cols - k)) (c - (cols - k)) ((brk (j + k) (brk j l.1)).take j ++ (((brk (j + k) (brk j l.1)).drop (j + k)).take (cols - (j + k)) ++ (brk (j + k) (brk j l.1)).drop (j + (cols - (j + k))))) q w0 w' os1 h (by have := HCL.out; omega) (by omega) (by have := HCL.out; omega))).mono fun e w2 ⟨h1, h2⟩ => ⟨_, h1, sp_set 0 _ (by kernel_rfl) (by simp) (by decide) hl hs (by rfl) h2 rfl, trivial⟩)
      exact SSteps.nil
    · intro vs w' hS hv
      have q0 := (show vs 0 = (.slice (some ⟨g, 0, none⟩) l.1.length c : Value) from hv 0 (by decide))
      have q1 := (show vs 1 = (.pointer (some ⟨p, 0, none⟩) : Value) from hv 1 (by decide))
      have q2 := (show vs 2 = (.pointer (some ⟨p, 0, none⟩) : Value) from hv 2 (by decide))
      have q3 := (show vs 3 = (.pointer (some ⟨p, 0, none⟩) : Value) from hv 3 (by decide))
      have q4 := (show vs 4 = (.int .i64 ↑cols : Value) from hv 4 (by decide))
      have q5 := (show vs 5 = (.int .i64 ↑k : Value) from hv 5 (by decide))
      have q6 := (show vs 6 = (.int .i64 ↑(cols - k) : Value) from hv 6 (by decide))
      have q7 := (show vs 7 = (.slice (tailA (some ⟨g, 0, none⟩) c (cols - k)) (l.1.length - (cols - k)) (c - (cols - k)) : Value) from hv 7 (by decide))
      have q8 := (show vs 8 = (.agg (pv q) : Value) from hv 8 (by decide))
      have q9 := (show vs 9 = (.tuple #[] : Value) from hv 9 (by decide))
      have S2 := Lib.hid hS
      simp only [putL, Act.put, Nat.zero_add, Nat.reduceAdd, List.setIfInBounds_toArray, List.set_cons_succ, List.set_cons_zero, q0, q1, q2, q3, q4, q5, q6, q7, q8, q9]
      clear hS hv q0 q1 q2 q3 q4 q5 q6 q7 q8 q9
      have HF := (show Objs w0 w' (_ :: _ :: _ :: _ :: os) from S2.out).closeAt HL.out
      rw [HP.out] at HF
      go_wp2_with fail
      go_ret
      exact ⟨rfl, HF.drop2⟩
end
end Go.Proofs.YtghahanpmcpacaaDoor

/-
  Clear and Shift of the reference's grid.
-/
set_option linter.unusedSimpArgs false
set_option linter.unusedVariables false
namespace Go.Proofs.YtghahanpmcpacaaDoor
open Go.RowKit

@[go_sem] theorem run_fieldL (A : Option Addr) (n c : Nat) (b : Bool) (w : World) : (Instr.field 79 (.agg #[.slice A n c, .bool b]) 0).run Tryd.prog w = .ok (.slice A n c) w := by kernel_rfl
section
variable {w0 w : World} {os : List Ob} {p cols : Nat} {L : List Ln}
end
end Go.Proofs.YtghahanpmcpacaaDoor

/-
  SetSoft: whether a row is soft.
-/
set_option linter.unusedSimpArgs false
set_option linter.unusedVariables false
namespace Go.Proofs.YtghahanpmcpacaaDoor
open Go.RowKit

section
variable {w0 w : World} {os : List Ob} {p cols : Nat} {L : List Ln}
set_option maxHeartbeats 1000000 in
theorem SetSoft_yes {i : Nat} {l : Ln} (s : Bool) (hS : Objs w0 w (.grid p 37 cols L :: os)) (hc : 0 < cols) (hl : L[i]? = some l) (hlen : L.length ≤ 1000000) :
    Calls Tryd.prog 55 #[.pointer (some ⟨p, 0, none⟩), .int .i64 i, .bool s] w fun e w' => e = .returned (.int .i64 0) ∧ Objs w0 w' (.grid p 37 cols (L.set i (l.1, s)) :: os) := by
  have S := Lib.hid hS
  have hi : i < L.length := (List.getElem?_eq_some_iff.1 hl).1
  have HL := Lib.hid hl
  have HE := Lib.hid (show thereE i L = 0 by unfold thereE; rw [if_pos ⟨by omega, by omega⟩])
  clear hS hl
  go_enter Tryd.func55, Tryd.ntmps55
  go_wp2_with fail
  refine (there_any i S.out (k := 0) rfl hc).mono ?_
  rw [HE.out]
  rintro e w1 ⟨rfl, hS⟩
  obtain ⟨v, hS1⟩ := hS.openGrid (k := 0) rfl
  obtain ⟨A, c, rfl, hcm, hrd⟩ := hS1.linesRd (k := 0) rfl
  obtain ⟨F, bs, hF, -⟩ := hS1.get (k := 0) rfl
  obtain ⟨A2, c2, e2, -, -, -, h4⟩ := hF.form
  simp only [Value.slice.injEq, true_and] at e2
  obtain ⟨rfl, rfl⟩ := e2
  obtain ⟨g, rfl, hz, -, hso, hfz⟩ := h4 (by omega)
  have hso2 := hso i l HL.out
  obtain ⟨hx0, hf0, hz0⟩ := (hS1.box (k := 1) rfl).facts
  have S2 := Lib.hid (((hS1.storeSoft (k := 0) (s := s) rfl HL.out) : Objs w0 _ (.lines _ _ :: _ :: os)).closeGrid (k := 0) rfl)
  clear hS hS1 S hcm hrd hF h4 hso
  go_wp2_with fail
  go_ret
  exact ⟨rfl, S2.out⟩
end
end Go.Proofs.YtghahanpmcpacaaDoor

/-
  Copy of a grid.
-/
set_option linter.unusedSimpArgs false
set_option linter.unusedVariables false
namespace Go.Proofs.YtghahanpmcpacaaDoor
open Go.RowKit

def sndV : Value → Value
  | .agg a => a.getD 1 undef
  | v => v
section
variable {w0 w : World} {os : List Ob} {p cols : Nat} {L : List Ln}
set_option maxRecDepth 100000 in
set_option maxHeartbeats 2000000 in
theorem Copy_front (hS : Objs w0 w (.grid p 37 cols L :: os)) (hc : 0 < cols) (hn : ∀ l ∈ L, l.1.length ≤ 1000000) (hL : L.length ≤ 1000000) :
    Calls Tryd.prog 31 #[.pointer (some ⟨p, 0, none⟩)] w fun e w' => ∃ p2, e = .returned (.pointer (some ⟨p2, 0, none⟩)) ∧ Objs w0 w' (.grid p2 37 cols L :: .grid p 37 cols L :: os) := by
  have S := Lib.hid hS
  have HN := Lib.hid hn
  clear hS hn
  go_enter Tryd.func31, Tryd.ntmps31
  go_wp2_with fail
  refine (none_no S.out (k := 0) rfl hc).mono ?_
  rintro e w1 ⟨rfl, hS⟩
  have S1 := Lib.hid hS
  clear hS S
  go_upto_region 3 with (fail)
  refine wp_region_stage (w0 := w0) (os := os) (by kernel_rfl) (by kernel_rfl) (by kernel_rfl) [(0, 5, [5], fun vs => .lines (vs 5) L), (0, 6, [6], fun vs => .lines (sndV (vs 6)) L), (1, 7, [6, 7], fun vs => .box (blkOf (vs 7)) 37 #[.int .i64 ↑cols, sndV (vs 6)]), (1, 8, [6, 8], fun vs => .box (blkOf (vs 8)) 37 #[.int .i64 ↑cols, sndV (vs 6)])] [[], [], [], [2], [], [0, 2], [0], [1], [1]] [.none, .none, .grid p 37 ↑cols L] (fun i u => match i with | 0 => u = (.pointer (some ⟨p, 0, none⟩) : Value) | 1 => u = (.pointer (some ⟨p, 0, none⟩) : Value) | 2 => u = (.pointer (some ⟨p, 0, none⟩) : Value) | 3 => u = (.int .i64 ↑cols : Value) | 4 => u = (.pointer (some ⟨p, 0, none⟩) : Value) | 5 => ∃ A n c, u = .slice A n c | 6 => ∃ A n c, u = .agg #[.int .i64 ↑cols, .slice A n c] | 7 => ∃ g, u = .pointer (some ⟨g, 0, none⟩) | 8 => ∃ g, u = .pointer (some ⟨g, 0, none⟩) | _ => True) (fun vs => [.lines (sndV (vs 6)) L, .box (blkOf (vs 8)) 37 #[.int .i64 ↑cols, sndV (vs 6)], .grid p 37 ↑cols L]) (by kernel_rfl) (fun vs => by rfl) S1.out.pad.pad ?_ ?_
  · refine SSteps.cons (fun a w' vs σ hS hl hs hk => ?_) ?_
    · have e0 : a.tmps.getD 0 undef = (.pointer (some ⟨p, 0, none⟩) : Value) := (sk_old hk 0 (by kernel_rfl)).trans rfl
      have f0 := gd e0
      exact ro_pure (v := .pointer (some ⟨p, 0, none⟩)) (wanted_none rfl) (by simp [execOp, Act.eval, e0, f0, go_sem]) (sp_same (by kernel_rfl) hl hs hS (show (.pointer (some ⟨p, 0, none⟩) : Value) = _ from rfl)) trivial
    refine SSteps.cons (fun a w' vs σ hS hl hs hk => ?_) ?_
    · have e5 : a.tmps.getD 5 undef = (.pointer (some ⟨p, 0, none⟩) : Value) := (sk_val hk 0 (by kernel_rfl) rfl rfl).trans ((hk.1 0 (by kernel_rfl)).1)
      have f5 := gd e5
      exact ro_pure (v := .pointer (some ⟨p, 0, none⟩)) (wanted_none rfl) (by simp [execOp, Act.eval, e5, f5, go_sem]) (sp_same (by kernel_rfl) hl hs hS (show (.pointer (some ⟨p, 0, none⟩) : Value) = _ from rfl)) trivial
    refine SSteps.cons (fun a w' vs σ hS hl hs hk => ?_) ?_
    · have e6 : a.tmps.getD 6 undef = (.pointer (some ⟨p, 0, none⟩) : Value) := (sk_val hk 1 (by kernel_rfl) rfl rfl).trans ((hk.1 1 (by kernel_rfl)).1)
      have f6 := gd e6
      exact ro_pure (v := .pointer (some ⟨p, 0, none⟩)) (wanted_none rfl) (by simp [execOp, Act.eval, e6, f6, go_sem]) (sp_same (by kernel_rfl) hl hs hS (show (.pointer (some ⟨p, 0, none⟩) : Value) = _ from rfl)) trivial
    refine SSteps.cons (fun a w' vs σ hS hl hs hk => ?_) ?_
    · have e7 : a.tmps.getD 7 undef = (.pointer (some ⟨p, 0, none⟩) : Value) := (sk_val hk 2 (by kernel_rfl) rfl rfl).trans ((hk.1 2 (by kernel_rfl)).1)
      have f7 := gd e7
      obtain ⟨A1, c1, hB1, -, -⟩ := hS.gridRd (sg (hs 2 (by decide)))
      have hx := hB1.cell
      exact ro_pure (v := .int .i64 ↑cols) (wanted_none rfl) (by simp [execOp, Act.eval, e7, f7, go_sem, hx]) (sp_same (by kernel_rfl) hl hs hS (show (.int .i64 ↑cols : Value) = _ from rfl)) trivial
    refine SSteps.cons (fun a w' vs σ hS hl hs hk => ?_) ?_
    · have e0 : a.tmps.getD 0 undef = (.pointer (some ⟨p, 0, none⟩) : Value) := (sk_old hk 0 (by kernel_rfl)).trans rfl
      have f0 := gd e0
      exact ro_pure (v := .pointer (some ⟨p, 0, none⟩)) (wanted_none rfl) (by simp [execOp, Act.eval, e0, f0, go_sem]) (sp_same (by kernel_rfl) hl hs hS (show (.pointer (some ⟨p, 0, none⟩) : Value) = _ from rfl)) trivial
    refine SSteps.cons (fun a w' vs σ hS hl hs hk => ?_) ?_
    · have e9 : a.tmps.getD 9 undef = (.pointer (some ⟨p, 0, none⟩) : Value) := (sk_val hk 4 (by kernel_rfl) rfl rfl).trans ((hk.1 4 (by kernel_rfl)).1)
      have f9 := gd e9
      have h0 : σ[0]? = some .none := hs 0 (by decide)
      have h2 : σ[2]? = some (.grid p 37 ↑cols L) := hs 2 (by decide)
      exact ro_call (f := 23) (wanted_none rfl) rfl (by simp only [List.map_toArray, List.map_cons, List.map_nil, Act.eval, e9] <;> rfl) (fun _ _ => by kernel_rfl) ((Lines_any hS (sg h2) hc HN.out hL).mono fun e w2 ⟨x, h1, h2⟩ => ⟨_, h1, sp_set 0 (.lines x L) (by kernel_rfl) (by simp) (by decide) hl hs (by rfl) (h2.place (sg h0)) (by obtain ⟨A, c, e, -⟩ := h2.linesRd (k := 0) rfl; exact ⟨A, _, c, e⟩), trivial⟩)
    refine SSteps.cons (fun a w' vs σ hS hl hs hk => ?_) ?_
    · have e8 : a.tmps.getD 8 undef = (.int .i64 ↑cols : Value) := (sk_val hk 3 (by kernel_rfl) rfl rfl).trans ((hk.1 3 (by kernel_rfl)).1)
      have f8 := gd e8
      have e10 : a.tmps.getD 10 undef = vs 5 := sk_val hk 5 (by kernel_rfl) rfl rfl
      have p10 : (fun u : Value => ∃ A n c, u = .slice A n c) (vs 5) := (hk.1 5 (by kernel_rfl)).1
      have f10 := gd e10
      obtain ⟨A5, n5, c5, q5⟩ := p10
      have e9 := e10.trans q5
      have f9 := gd e9
      have h0 : σ[0]? = some (.lines (vs 5) L) := hs 0 (by decide)
      rw [q5] at h0
      have hSS : Objs w0 w' ((σ ++ os).set 0 (.lines (.slice A5 n5 c5) L)) := by rw [set_self (sg h0)]; exact hS
      exact rs_run (v' := .agg #[.int .i64 ↑cols, .slice A5 n5 c5]) (w' := w') (wanted_none rfl) (by simp [execOp, Act.eval, e8, f8, e9, f9, go_sem]) (sp_set 0 (.lines (.slice A5 n5 c5) L) (by kernel_rfl) (by simp) (by decide) hl hs (by rfl) hSS ⟨A5, n5, c5, rfl⟩)
    refine SSteps.cons (fun a w' vs σ hS hl hs hk => ?_) ?_
    · have e11 : a.tmps.getD 11 undef = vs 6 := sk_val hk 6 (by kernel_rfl) rfl rfl
      have p11 : (fun u : Value => ∃ A n c, u = .agg #[.int .i64 ↑cols, .slice A n c]) (vs 6) := (hk.1 6 (by kernel_rfl)).1
      have f11 := gd e11
      obtain ⟨A6, n6, c6, q6⟩ := p11
      have e9 := e11.trans q6
      have f9 := gd e9
      have h1 : σ[1]? = some .none := hs 1 (by decide)
      exact rs_run (v' := .pointer (some ⟨w'.heap.size, 0, none⟩)) (w' := w'.alloc (.cells #[.int .i64 ↑cols, .slice A6 n6 c6] 37)) (wanted_none rfl) (by simp [execOp, Act.eval, e9, f9, go_sem]) (sp_set 1 (.box w'.heap.size 37 #[.int .i64 ↑cols, .slice A6 n6 c6]) (by kernel_rfl) (by simp) (by decide) hl hs (by show Ob.box (blkOf (.pointer (some ⟨w'.heap.size, 0, none⟩))) 37 #[.int .i64 ↑cols, sndV (vs 6)] = _; rw [q6]; rfl) (hS.alloc1.place (sg h1)) ⟨_, rfl⟩)
    refine SSteps.cons (fun a w' vs σ hS hl hs hk => ?_) ?_
    · have e12 : a.tmps.getD 12 undef = vs 7 := sk_val hk 7 (by kernel_rfl) rfl rfl
      have p12 : (fun u : Value => ∃ g, u = .pointer (some ⟨g, 0, none⟩)) (vs 7) := (hk.1 7 (by kernel_rfl)).1
      have f12 := gd e12
      obtain ⟨g7, q7⟩ := p12
      have e9 := e12.trans q7
      have f9 := gd e9
      have h1 : σ[1]? = some (.box (blkOf (vs 7)) 37 #[.int .i64 ↑cols, sndV (vs 6)]) := hs 1 (by decide)
      rw [q7, show blkOf (.pointer (some ⟨g7, 0, none⟩)) = g7 from rfl] at h1
      have hSS : Objs w0 w' ((σ ++ os).set 1 (.box g7 37 #[.int .i64 ↑cols, sndV (vs 6)])) := by rw [set_self (sg h1)]; exact hS
      exact rs_run (v' := .pointer (some ⟨g7, 0, none⟩)) (w' := w') (wanted_none rfl) (by simp [execOp, Act.eval, e9, f9, go_sem]) (sp_set 1 (.box g7 37 #[.int .i64 ↑cols, sndV (vs 6)]) (by kernel_rfl) (by simp) (by decide) hl hs (by rfl) hSS ⟨g7, rfl⟩)
    exact SSteps.nil
  · intro vs w' hS hv
    have q0 := (show vs 0 = (.pointer (some ⟨p, 0, none⟩) : Value) from hv 0 (by decide))
    have q1 := (show vs 1 = (.pointer (some ⟨p, 0, none⟩) : Value) from hv 1 (by decide))
    have q2 := (show vs 2 = (.pointer (some ⟨p, 0, none⟩) : Value) from hv 2 (by decide))
    have q3 := (show vs 3 = (.int .i64 ↑cols : Value) from hv 3 (by decide))
    have q4 := (show vs 4 = (.pointer (some ⟨p, 0, none⟩) : Value) from hv 4 (by decide))
    obtain ⟨g8, q8⟩ := (show ∃ g, vs 8 = .pointer (some ⟨g, 0, none⟩) from hv 8 (by decide))
    rw [q8] at hS
    have S2 := Lib.hid hS
    simp only [putL, Act.put, Nat.zero_add, Nat.reduceAdd, List.setIfInBounds_toArray, List.set_cons_succ, List.set_cons_zero, q0, q1, q2, q3, q4]
    clear hS hv q0 q1 q2 q3 q4
    have HF := (show Objs w0 w' (.lines _ L :: .box g8 37 _ :: _ :: os) from S2.out).closeGrid (k := 0) rfl
    clear S2
    simp only [q8]
    go_wp2_with fail
    go_ret
    exact ⟨g8, rfl, HF⟩
end
end Go.Proofs.YtghahanpmcpacaaDoor

/-
  The reference's comparison of lines, and of lists of lines.
-/
set_option linter.unusedSimpArgs false
set_option linter.unusedVariables false
namespace Go.Proofs.YtghahanpmcpacaaDoor
open Go.RowKit

theorem tt_of {f : FuncId} {args : Array Value} {w : World} {b : Bool} (hc : Calls Tryd.prog f args w fun e w' => e = .returned (.bool b) ∧ Below w.heap.size w w') (h : b = true) : Calls Tryd.prog f args w fun e w' => e = .returned (.bool true) ∧ Below w.heap.size w w' := h ▸ hc
theorem ff_of {f : FuncId} {args : Array Value} {w : World} {b : Bool} (hc : Calls Tryd.prog f args w fun e w' => e = .returned (.bool b) ∧ Below w.heap.size w w') (h : b = false) : Calls Tryd.prog f args w fun e w' => e = .returned (.bool false) ∧ Below w.heap.size w w' := h ▸ hc
theorem upto_eqG {α : Type} {xs ys : List α} (hl : xs.length = ys.length) (h : ∀ k, k < xs.length → xs[k]? = ys[k]?) : xs = ys := by
  apply List.ext_getElem?
  intro k
  rcases Nat.lt_or_ge k xs.length with hk | hk
  · exact h k hk
  · rw [List.getElem?_eq_none hk, List.getElem?_eq_none (by omega)]
theorem eqL_line (a b : Ln) : eqL a.1 a.2 b.1 b.2 = decide (a = b) := rfl
end Go.Proofs.YtghahanpmcpacaaDoor

/-
  Same: whether two grids are equal.
-/
set_option linter.unusedSimpArgs false
set_option linter.unusedVariables false
namespace Go.Proofs.YtghahanpmcpacaaDoor
open Go.RowKit

set_option maxHeartbeats 2000000 in
theorem eqFunc_any (A B : Option Addr) (ca cb : Nat) (xs ys : List Ln) (w : World) (ha : RdL w A ca xs) (hb : RdL w B cb ys) (hn : xs.length ≤ 1000000) (hm : ys.length ≤ 1000000) (hx : ∀ l ∈ xs, l.1.length ≤ 1000000) (hy : ∀ l ∈ ys, l.1.length ≤ 1000000) :
    Calls Tryd.prog 63 #[.slice A xs.length ca, .slice B ys.length cb, .func (.func 64) #[] #[]] w fun e w' => e = .returned (.bool (decide (xs = ys))) ∧ Below w.heap.size w w' := by
  have HA := Lib.hid ha
  have HB := Lib.hid hb
  have HX := Lib.hid hx
  have HY := Lib.hid hy
  clear ha hb hx hy
  by_cases hl : xs.length = ys.length
  case neg =>
    have HE := Lib.hid (show decide (xs = ys) = false by simp; intro h; exact hl (by rw [h]))
    have hl' : ((xs.length : Int) == (ys.length : Int)) = false := by rw [beq_eq_false_iff_ne]; omega
    clear hl
    go_enter Tryd.func63, Tryd.ntmps63
    go_wp2_with fail
    go_ret
    exact ⟨by rw [HE.out]; rfl, Below.refl _ _⟩
  have hl' : ((xs.length : Int) == (ys.length : Int)) = true := by simp; omega
  have hl2 : ((xs.length : Int) != (ys.length : Int)) = false := by simp; omega
  have HL := Lib.hid hl
  clear hl
  go_enter Tryd.func63, Tryd.ntmps63
  go_wp2_with fail
  go_loopw [7, 8, 9, 17] (fun _ _ _ i wr => ∃ k : Nat, k ≤ xs.length ∧ i = .int .i64 k ∧ (∀ j, j < k → xs[j]? = ys[j]?) ∧ Below w.heap.size w wr) (fun _ _ _ i _ => xs.length - (intOf i).toNat)
  case atStart => exact ⟨0, by omega, rfl, fun j hj => by omega, Below.refl _ _⟩
  case round =>
    obtain ⟨k, hk, rfl, hj, hb⟩ := hrel
    have HJ := Lib.hid hj
    have HW := Lib.hid hb
    clear hj hb
    by_cases hlt : k < xs.length
    · have hlt2 : k < ys.length := by have := HL.out; omega
      obtain ⟨b1, o1, A1, c1, rfl, hz1, hc1, hc2, hr1⟩ := (HA.out.bel HW.out).at_ (show xs[k]? = some xs[k] by simp [hlt])
      obtain ⟨b2, o2, A2, c2, rfl, hz2, hc3, hc4, hr2⟩ := (HB.out.bel HW.out).at_ (show ys[k]? = some ys[k] by simp [hlt2])
      have HR1 := Lib.hid hr1
      have HR2 := Lib.hid hr2
      clear hr1 hr2
      have HN1 := Lib.hid (HX.out _ (List.getElem_mem hlt))
      have HN2 := Lib.hid (HY.out _ (List.getElem_mem hlt2))
      by_cases he : xs[k] = ys[k]
      · have HE := Lib.hid he
        have HQ := Lib.hid (show eqL xs[k].1 xs[k].2 ys[k].1 ys[k].2 = true by rw [eqL_line]; simpa using he)
        clear he
        go_wp2_with fail
        refine (tt_of (lineEqual_any A1 A2 c1 c2 xs[k].1 ys[k].1 xs[k].2 ys[k].2 _ ((HR1.out.alloc _).alloc _) ((HR2.out.alloc _).alloc _) HN1.out HN2.out) HQ.out).mono ?_
        rintro e w2 ⟨rfl, hb2⟩
        have HB2 := Lib.hid (bel1 (bel1 hb2))
        clear hc1 hc2 hc3 hc4 hb2
        go_wp2_with fail
        go_roundw
        case rel => exact ⟨k + 1, by omega, by go_num, upto_succ HJ.out (by rw [List.getElem?_eq_getElem hlt, List.getElem?_eq_getElem hlt2, HE.out]), HW.out.trans (HB2.out.mono HW.out.size)⟩
        case measure => simp [intOf]; omega
      · have HE := Lib.hid (show decide (xs = ys) = false by simp; rintro rfl; exact he rfl)
        have HQ := Lib.hid (show eqL xs[k].1 xs[k].2 ys[k].1 ys[k].2 = false by rw [eqL_line]; simpa using he)
        clear he
        go_wp2_with fail
        refine (ff_of (lineEqual_any A1 A2 c1 c2 xs[k].1 ys[k].1 xs[k].2 ys[k].2 _ ((HR1.out.alloc _).alloc _) ((HR2.out.alloc _).alloc _) HN1.out HN2.out) HQ.out).mono ?_
        rintro e w2 ⟨rfl, hb2⟩
        have HB2 := Lib.hid (bel1 (bel1 hb2))
        clear hc1 hc2 hc3 hc4 hb2
        go_wp2_with fail
        go_ret
        exact ⟨by rw [HE.out]; rfl, HW.out.trans (HB2.out.mono HW.out.size)⟩
    · have HE := Lib.hid (show decide (xs = ys) = true by simp; exact upto_eqG HL.out (fun j hj => HJ.out j (by omega)))
      go_wp2_with fail
      go_ret
      exact ⟨by rw [HE.out]; rfl, HW.out⟩
end Go.Proofs.YtghahanpmcpacaaDoor

/-
  Same of two grids.
-/
set_option linter.unusedSimpArgs false
set_option linter.unusedVariables false
namespace Go.Proofs.YtghahanpmcpacaaDoor
open Go.RowKit

section
variable {w0 w : World} {os : List Ob}
set_option maxHeartbeats 2000000 in
theorem Same_any {k1 k2 p1 p2 c1 c2 : Nat} {L1 L2 : List Ln} (hS : Objs w0 w os) (hk1 : os[k1]? = some (.grid p1 37 c1 L1)) (hk2 : os[k2]? = some (.grid p2 37 c2 L2)) (h1 : 0 < c1) (h2 : 0 < c2) (hn1 : L1.length ≤ 1000000) (hn2 : L2.length ≤ 1000000) (hx : ∀ l ∈ L1, l.1.length ≤ 1000000) (hy : ∀ l ∈ L2, l.1.length ≤ 1000000) :
    Calls Tryd.prog 32 #[.pointer (some ⟨p1, 0, none⟩), .pointer (some ⟨p2, 0, none⟩)] w fun e w' => e = .returned (.bool (decide (c1 = c2) && decide (L1 = L2))) ∧ Objs w0 w' os := by
  have S := Lib.hid hS
  have HK1 := Lib.hid hk1
  have HK2 := Lib.hid hk2
  have HX := Lib.hid hx
  have HY := Lib.hid hy
  clear hS hk1 hk2 hx hy
  go_enter Tryd.func32, Tryd.ntmps32
  go_wp2_with fail
  refine (none_no S.out HK1.out h1).mono ?_
  rintro e w1 ⟨rfl, hS⟩
  have S1 := Lib.hid hS
  clear hS
  go_wp2_with fail
  refine (none_no S1.out HK2.out h2).mono ?_
  rintro e w2 ⟨rfl, hS⟩
  have S2 := Lib.hid hS
  obtain ⟨A1, d1, hB1, -, hr1⟩ := hS.gridRd HK1.out
  obtain ⟨A2, d2, hB2, -, hr2⟩ := hS.gridRd HK2.out
  have R1 := Lib.hid hr1
  have R2 := Lib.hid hr2
  obtain ⟨hx1, hf1, hz1⟩ := hB1.facts
  obtain ⟨hx2, hf2, hz2⟩ := hB2.facts
  clear hS hB1 hB2 hr1 hr2
  by_cases hc : c1 = c2
  case neg =>
    have hc' : decide ((c1 : Int) = (c2 : Int)) = false := by simp; omega
    have hcb : ((c1 : Int) == (c2 : Int)) = false := by rw [beq_eq_false_iff_ne]; omega
    have HC := Lib.hid hc
    clear hc
    go_wp2_with fail
    refine wp_region_below (by kernel_rfl) (by kernel_rfl) ?_
    repeat (go_big_quiet_step (fail))
    refine wpQuiet_nil ?_
    intro w3 hb3
    have S3 := Lib.hid (S2.out.bel hb3)
    clear hx1 hf1 hz1 hx2 hf2 hz2
    go_wp2_with fail
    go_ret
    exact ⟨by rw [show decide (c1 = c2) = false by simpa using HC.out]; rfl, S3.out⟩
  subst hc
  go_wp2_with fail
  refine wp_region_below (by kernel_rfl) (by kernel_rfl) ?_
  repeat (go_big_quiet_step ((go_at_call 63; exact quiet_below (eqFunc_any A1 A2 d1 d2 L1 L2 _ (R1.out.bel (below_plus _ _)) (R2.out.bel (below_plus _ _)) hn1 hn2 HX.out HY.out))))
  refine wpQuiet_nil ?_
  intro w3 hb3
  have S3 := Lib.hid (S2.out.bel hb3)
  clear hx1 hf1 hz1 hx2 hf2 hz2
  go_wp2_with fail
  go_ret
  exact ⟨by simp, S3.out⟩
end
end Go.Proofs.YtghahanpmcpacaaDoor

/-
  What the methods of a grid do, wherever it lies among the objects.
-/
set_option linter.unusedSimpArgs false
set_option linter.unusedVariables false
namespace Go.Proofs.YtghahanpmcpacaaDoor
open Go.RowKit

/-- A row's cells turn. -/
def rowMod (i : Nat) (f : List Cell → List Cell) (L : List Ln) : List Ln := match L[i]? with | some l => L.set i (f l.1, l.2) | none => L
def softMod (i : Nat) (s : Bool) (L : List Ln) : List Ln := match L[i]? with | some l => L.set i (l.1, s) | none => L
theorem rowMod_some {i : Nat} {f : List Cell → List Cell} {L : List Ln} {l : Ln} (h : L[i]? = some l) : rowMod i f L = L.set i (f l.1, l.2) := by unfold rowMod; rw [h]
theorem softMod_some {i : Nat} {s : Bool} {L : List Ln} {l : Ln} (h : L[i]? = some l) : softMod i s L = L.set i (l.1, s) := by unfold softMod; rw [h]
theorem rowMod_length (i : Nat) (f : List Cell → List Cell) (L : List Ln) : (rowMod i f L).length = L.length := by unfold rowMod; split <;> simp
theorem softMod_length (i : Nat) (s : Bool) (L : List Ln) : (softMod i s L).length = L.length := by unfold softMod; split <;> simp
theorem rect_set {n i : Nat} {L : List Ln} {l : Ln} (h : Rect n L) (hl : l.1.length = n) : Rect n (L.set i l) := fun x hx => by
  rcases List.mem_or_eq_of_mem_set hx with h1 | rfl
  · exact h x h1
  · exact hl
theorem Rect.rowMod {n : Nat} {L : List Ln} (h : Rect n L) (i : Nat) {f : List Cell → List Cell} (hf : ∀ cs : List Cell, cs.length = n → (f cs).length = n) : Rect n (rowMod i f L) := by
  unfold Proofs.YtghahanpmcpacaaDoor.rowMod
  split
  · rename_i l hl; exact rect_set h (hf _ (h.at_ hl))
  · exact h
theorem Rect.softMod {n : Nat} {L : List Ln} (h : Rect n L) (i : Nat) (s : Bool) : Rect n (softMod i s L) := by
  unfold Proofs.YtghahanpmcpacaaDoor.softMod
  split
  · rename_i l hl; exact rect_set h (show l.1.length = n from h.at_ hl)
  · exact h
theorem Rect.mill {n : Nat} {L : List Ln} (h : Rect n L) (hn : n ≤ 1000) : ∀ l ∈ L, l.1.length ≤ 1000000 := fun l hl => by rw [h l hl]; omega
theorem get_of {α : Type} {L : List α} {i : Nat} (h : i < L.length) : ∃ l, L[i]? = some l := ⟨L[i], by simp [h]⟩
section
variable {w0 w : World} {os : List Ob} {k p cols : Nat} {L : List Ln}
theorem set_at {k : Nat} {o o' : Ob} (hk : os[k]? = some o) : (os.set k o')[k]? = some o' := List.getElem?_set_self (List.getElem?_eq_some_iff.1 hk).1
theorem PutG {i j : Nat} (x : Cell) (hT : Tabs w0) (hS : Objs w0 w os) (hk : os[k]? = some (.grid p 37 cols L)) (hcm : cols ≤ 1000) (hR : Rect cols L) (hi : i < L.length) (hv : x.ok = true) (hw : ¬ x.width = 0) (hfit : (j : Int) + x.width ≤ cols) :
    Calls Tryd.prog 41 #[.pointer (some ⟨p, 0, none⟩), .int .i64 i, .int .i64 j, .agg (cv x)] w fun e w' => e = .returned (.int .i64 0) ∧ Objs w0 w' (os.set k (.grid p 37 cols (rowMod i (putC j x) L))) := by
  obtain ⟨l, hl⟩ := get_of hi
  rw [rowMod_some hl]
  have hxw : 1 ≤ x.width := by rcases ok_w12 hv hw with h | h <;> omega
  exact front_call hS hk (fun os1 h => Put_yes x hT h (by omega) hcm hl (hR.at_ hl) hv hw hfit)
theorem r14PutG {i j : Nat} (x : Cell) (hS : Objs w0 w os) (hk : os[k]? = some (.grid p 63 cols L)) (hcm : cols ≤ 1000) (hR : Rect cols L) (hi : i < L.length) (hv : x.ok = true) (hw : ¬ x.width = 0) (hfit : (j : Int) + x.width ≤ cols) :
    Calls Tryd.prog 54 #[.pointer (some ⟨p, 0, none⟩), .int .i64 i, .int .i64 j, .agg (cv x)] w fun e w' => e = .returned (.tuple #[]) ∧ Objs w0 w' (os.set k (.grid p 63 cols (rowMod i (putC j x) L))) := by
  obtain ⟨l, hl⟩ := get_of hi
  rw [rowMod_some hl]
  have hxw : 1 ≤ x.width := by rcases ok_w12 hv hw with h | h <;> omega
  exact front_call hS hk (fun os1 h => r14Put_any x h (by omega) hcm hl (hR.at_ hl) hv hw hfit)
theorem SetSoftG {i : Nat} (s : Bool) (hS : Objs w0 w os) (hk : os[k]? = some (.grid p 37 cols L)) (hc : 0 < cols) (hi : i < L.length) (hlen : L.length ≤ 1000000) :
    Calls Tryd.prog 55 #[.pointer (some ⟨p, 0, none⟩), .int .i64 i, .bool s] w fun e w' => e = .returned (.int .i64 0) ∧ Objs w0 w' (os.set k (.grid p 37 cols (softMod i s L))) := by
  obtain ⟨l, hl⟩ := get_of hi
  rw [softMod_some hl]
  exact front_call hS hk (fun os1 h => SetSoft_yes s h hc hl hlen)
theorem CopyG (hS : Objs w0 w os) (hk : os[k]? = some (.grid p 37 cols L)) (hc : 0 < cols) (hcm : cols ≤ 1000) (hR : Rect cols L) (hL : L.length ≤ 1000000) :
    Calls Tryd.prog 31 #[.pointer (some ⟨p, 0, none⟩)] w fun e w' => ∃ p2, e = .returned (.pointer (some ⟨p2, 0, none⟩)) ∧ Objs w0 w' (.grid p2 37 cols L :: os) := by
  have hS2 := hS.lift hk
  refine (Copy_front hS2 hc (hR.mill hcm) hL).mono ?_
  rintro e w' ⟨p2, rfl, h⟩
  have h2 := h.lowerNew hk
  rw [set_self hk] at h2
  exact ⟨p2, rfl, h2⟩
end
end Go.Proofs.YtghahanpmcpacaaDoor

/-
  Roll, in plain lists; the rows of a grid taken apart and put together anew.
-/
set_option linter.unusedSimpArgs false
set_option linter.unusedVariables false
namespace Go.Proofs.YtghahanpmcpacaaDoor
open Go.RowKit

def rollK (n : Int) (many : Nat) : Nat := if -(many : Int) < n ∧ n < many then n.natAbs else many
theorem rollK_le (n : Int) (many : Nat) : rollK n many ≤ many := by unfold rollK; split <;> omega
def lastHard (S : List Ln) : List Ln := softMod (S.length - 1) false S
theorem lastHard_length (S : List Ln) : (lastHard S).length = S.length := softMod_length _ _ _
def rollIn (top bot : Nat) (L : List Ln) : List Ln := (L.drop top).take (bot + 1 - top)
/-- The rows that leave, those that stay. -/
def rollGone (top bot : Nat) (n : Int) (L : List Ln) : List Ln :=
  if n = 0 then [] else if 0 < n then (rollIn top bot L).take (rollK n (bot + 1 - top)) else (rollIn top bot L).drop (bot + 1 - top - rollK n (bot + 1 - top))
def rollStay (top bot : Nat) (n : Int) (L : List Ln) : List Ln :=
  if 0 < n then (rollIn top bot L).drop (rollK n (bot + 1 - top)) else (rollIn top bot L).take (bot + 1 - top - rollK n (bot + 1 - top))
def rollFresh (k cols : Nat) (q : Pen) : List Ln := List.replicate k (List.replicate cols (blank q), false)
/-- The region's rows behind a roll. -/
def rollMid (top bot : Nat) (n : Int) (q : Pen) (cols : Nat) (L : List Ln) : List Ln :=
  if 0 < n then lastHard (rollStay top bot n L) ++ rollFresh (rollK n (bot + 1 - top)) cols q else rollFresh (rollK n (bot + 1 - top)) cols q ++ lastHard (rollStay top bot n L)
def topHard (top : Nat) (L : List Ln) : List Ln := if 0 < top then softMod (top - 1) false L else L
def rollL (top bot : Nat) (n : Int) (q : Pen) (cols : Nat) (L : List Ln) : List Ln :=
  if n = 0 then L else topHard top (L.take top ++ (rollMid top bot n q cols L ++ L.drop (bot + 1)))
theorem topHard_length (top : Nat) (L : List Ln) : (topHard top L).length = L.length := by unfold topHard; split; exact softMod_length _ _ _; rfl
theorem Rect.topHard {n : Nat} {L : List Ln} (h : Rect n L) (top : Nat) : Rect n (topHard top L) := by unfold Proofs.YtghahanpmcpacaaDoor.topHard; split; exact h.softMod _ _; exact h
section
variable {top bot : Nat} {n : Int} {q : Pen} {cols : Nat} {L : List Ln}
theorem rollIn_length (h1 : top ≤ bot) (h2 : bot < L.length) : (rollIn top bot L).length = bot + 1 - top := by simp [rollIn]; omega
theorem rollStay_length (h1 : top ≤ bot) (h2 : bot < L.length) : (rollStay top bot n L).length = bot + 1 - top - rollK n (bot + 1 - top) := by
  have := rollK_le n (bot + 1 - top)
  unfold rollStay
  split <;> simp [rollIn_length h1 h2]
theorem rollMid_length (h1 : top ≤ bot) (h2 : bot < L.length) : (rollMid top bot n q cols L).length = bot + 1 - top := by
  have := rollK_le n (bot + 1 - top)
  unfold rollMid
  split <;> simp [lastHard_length, rollStay_length h1 h2, rollFresh] <;> omega
theorem rollL_length (h1 : top ≤ bot) (h2 : bot < L.length) : (rollL top bot n q cols L).length = L.length := by
  unfold rollL
  split
  · rfl
  · rw [topHard_length]; simp [rollMid_length h1 h2]; omega
theorem Rect.part {n : Nat} {L : List Ln} (h : Rect n L) (a b : Nat) : Rect n ((L.drop a).take b) := fun l hl => h l (List.mem_of_mem_drop (List.mem_of_mem_take hl))
theorem Rect.app {n : Nat} {A B : List Ln} (h : Rect n A) (g : Rect n B) : Rect n (A ++ B) := fun l hl => (List.mem_append.1 hl).elim (h l) (g l)
theorem rect_fresh (k cols : Nat) (q : Pen) : Rect cols (rollFresh k cols q) := fun l hl => by rw [(List.mem_replicate.1 hl).2]; simp
theorem Rect.rollStay {cols : Nat} {L : List Ln} (h : Rect cols L) (top bot : Nat) (n : Int) : Rect cols (rollStay top bot n L) := by
  unfold Proofs.YtghahanpmcpacaaDoor.rollStay
  split
  · exact fun l hl => h.part _ _ l (List.mem_of_mem_drop hl)
  · exact fun l hl => h.part _ _ l (List.mem_of_mem_take hl)
theorem Rect.rollGone {cols : Nat} {L : List Ln} (h : Rect cols L) (top bot : Nat) (n : Int) : Rect cols (rollGone top bot n L) := by
  unfold Proofs.YtghahanpmcpacaaDoor.rollGone
  split
  · intro l hl; simp at hl
  · split
    · exact fun l hl => h.part _ _ l (List.mem_of_mem_take hl)
    · exact fun l hl => h.part _ _ l (List.mem_of_mem_drop hl)
theorem Rect.rollL {L : List Ln} (h : Rect cols L) : Rect cols (rollL top bot n q cols L) := by
  unfold Proofs.YtghahanpmcpacaaDoor.rollL
  split
  · exact h
  · refine Rect.topHard (Rect.app (fun l hl => h l (List.mem_of_mem_take hl)) (Rect.app ?_ (fun l hl => h l (List.mem_of_mem_drop hl)))) _
    unfold rollMid
    split
    · exact ((h.rollStay _ _ _).softMod _ _).app (rect_fresh _ _ _)
    · exact (rect_fresh _ _ _).app ((h.rollStay _ _ _).softMod _ _)
end
/-- The last row of a list is not soft. -/
def hardR (S : List Tr) : List Tr := match S[S.length - 1]? with | some x => S.set (S.length - 1) (x.1, x.2.1, false) | none => S
theorem hardR_length (S : List Tr) : (hardR S).length = S.length := by unfold hardR; split <;> simp
theorem lnP_length (T : List Tr) : (lnP T).length = T.length := by simp [lnP]
theorem hdP_length (T : List Tr) : (hdP T).length = T.length := by simp [hdP]
theorem lnP_append (A B : List Tr) : lnP (A ++ B) = lnP A ++ lnP B := by simp [lnP]
theorem hdP_append (A B : List Tr) : hdP (A ++ B) = hdP A ++ hdP B := by simp [hdP]
theorem piP_append (A B : List Tr) : piP (A ++ B) = piP A ++ piP B := by simp [piP]
theorem lnP_hardR (S : List Tr) : lnP (hardR S) = lastHard (lnP S) := by
  unfold hardR lastHard softMod
  rw [lnP_length]
  have e : (lnP S)[S.length - 1]? = (S[S.length - 1]?).map (·.2) := by simp [lnP]
  rw [e]
  cases h : S[S.length - 1]? with
  | none => rfl
  | some x => simp only [Option.map_some]; simp [lnP]
theorem piP_hardR (S : List Tr) : piP (hardR S) = piP S := by
  unfold hardR
  split
  · rename_i x hx
    unfold piP
    rw [List.map_set, set_self (by rw [List.getElem?_map, hx]; rfl)]
  · rfl
theorem hdP_hardR {S : List Tr} {x : Tr} (hx : S[S.length - 1]? = some x) : hdP (hardR S) = (hdP S).set (S.length - 1) (x.1, false) := by
  unfold hardR
  rw [hx]
  simp [hdP]
section
variable {w0 w : World} {os : List Ob}
/-- The rows are dealt anew: those that leave, and the grid's. -/
theorem Objs.deal {T G X1 F X3 : List Tr} {v vg : Value} (hp : (piP T).Perm (piP G ++ (piP X1 ++ piP X3))) (h : Objs w0 w (.pile (piP T ++ piP F) :: .heads vg (hdP G) :: .heads v (hdP (X1 ++ (F ++ X3))) :: os)) :
    Objs w0 w (.lines vg (lnP G) :: .lines v (lnP (X1 ++ (F ++ X3))) :: os) := by
  have hp2 : (piP T ++ piP F).Perm (piP G ++ piP (X1 ++ (F ++ X3))) := by
    rw [piP_append, piP_append]
    refine (hp.append_right _).trans ?_
    rw [List.append_assoc, List.append_assoc]
    exact (List.Perm.append_left _ (List.Perm.append_left _ List.perm_append_comm))
  have h1 := (h.pilePerm (k := 0) rfl hp2 : Objs w0 w (.pile (piP G ++ piP (X1 ++ (F ++ X3))) :: .heads vg (hdP G) :: .heads v (hdP (X1 ++ (F ++ X3))) :: os))
  have h2 := h1.pileSplit
  have h3 := (h2.ofHeads (k := 1) rfl : Objs w0 w (.pile (piP (X1 ++ (F ++ X3))) :: .lines vg (lnP G) :: .heads v (hdP (X1 ++ (F ++ X3))) :: os))
  exact (h3.ofHeads (k := 1) rfl : Objs w0 w (.lines vg (lnP G) :: .lines v (lnP (X1 ++ (F ++ X3))) :: os))
/-- A new line's cells come into the pile. -/
theorem Objs.pileMore {ps : List (Value × List Cell)} {v : Value} {cs : List Cell} (h : Objs w0 w (.cells v cs :: .pile ps :: os)) : Objs w0 w (.pile (ps ++ [(v, cs)]) :: os) :=
  ((h.pileOne (k := 0) rfl : Objs w0 w (.pile [(v, cs)] :: .pile ps :: os)).swap).pileJoin
end
theorem hdP_take (T : List Tr) (a : Nat) : (hdP T).take a = hdP (T.take a) := by simp [hdP]
theorem hdP_drop (T : List Tr) (a : Nat) : (hdP T).drop a = hdP (T.drop a) := by simp [hdP]
/-- The heads behind a copy within them. -/
theorem hdP_copied (T : List Tr) (i a m : Nat) : (hdP T).take i ++ (((hdP T).drop a).take m ++ (hdP T).drop (i + m)) = hdP (T.take i) ++ (hdP ((T.drop a).take m) ++ hdP (T.drop (i + m))) := by
  rw [hdP_take, hdP_drop, hdP_take, hdP_drop]
/-- The last of the rows in the middle is not soft from then on. -/
theorem hdP_harden {A S R : List Tr} {x : Tr} (hx : S[S.length - 1]? = some x) : (hdP A ++ (hdP S ++ hdP R)).set (A.length + (S.length - 1)) (x.1, false) = hdP A ++ (hdP (hardR S) ++ hdP R) := by
  have hl : S.length - 1 < S.length := (List.getElem?_eq_some_iff.1 hx).1
  rw [List.set_append_right _ _ (by rw [hdP_length]; omega), hdP_length, Nat.add_sub_cancel_left, List.set_append_left _ _ (by rw [hdP_length]; exact hl), hdP_hardR hx]
/-- A new line comes into its place. -/
theorem hdP_fill {X1 F R : List Tr} {a0 i : Nat} (v : Value) (cs : List Cell) (b : Bool) (h1 : X1.length = a0) (h2 : F.length = i) (h3 : i < R.length) : (hdP X1 ++ (hdP F ++ hdP (R.drop i))).set (a0 + i) (v, b) = hdP X1 ++ (hdP (F ++ [(v, cs, b)]) ++ hdP (R.drop (i + 1))) := by
  rw [List.set_append_right _ _ (by rw [hdP_length]; omega), hdP_length, h1, Nat.add_sub_cancel_left, List.set_append_right _ _ (by rw [hdP_length]; omega), hdP_length, h2, Nat.sub_self]
  rw [List.drop_eq_getElem_cons h3, hdP_append, List.append_assoc]
  rfl
section
variable {w0 w : World} {os : List Ob}
/-- The new line's cells go into the pile, which lies further behind. -/
theorem Objs.pileIn {ps : List (Value × List Cell)} {v : Value} {cs : List Cell} {o1 o2 o3 o4 : Ob} (h : Objs w0 w (.cells v cs :: o1 :: o2 :: o3 :: o4 :: .pile ps :: os)) : Objs w0 w (o1 :: o2 :: o3 :: o4 :: .pile (ps ++ [(v, cs)]) :: os) :=
  (((h.lift (k := 5) rfl : Objs w0 w (.pile ps :: .cells v cs :: o1 :: o2 :: o3 :: o4 :: .none :: os)).swap).pileMore).place (k := 4) rfl
/-- All is dealt: what leaves ahead, then the grid's lines. -/
theorem Objs.dealIn {T G X1 F X3 : List Tr} {v vg : Value} {o2 o3 : Ob} (hp : (piP T).Perm (piP G ++ (piP X1 ++ piP X3))) (h : Objs w0 w (.heads v (hdP X1 ++ (hdP F ++ hdP X3)) :: o2 :: o3 :: .heads vg (hdP G) :: .pile (piP T ++ piP F) :: os)) :
    Objs w0 w (.lines vg (lnP G) :: .lines v (lnP X1 ++ (lnP F ++ lnP X3)) :: o2 :: o3 :: os) := by
  have h1 := (h.lift (k := 4) rfl : Objs w0 w (.pile (piP T ++ piP F) :: .heads v (hdP X1 ++ (hdP F ++ hdP X3)) :: o2 :: o3 :: .heads vg (hdP G) :: .none :: os))
  have h2 := (h1.lift (k := 4) rfl : Objs w0 w (.heads vg (hdP G) :: .pile (piP T ++ piP F) :: .heads v (hdP X1 ++ (hdP F ++ hdP X3)) :: o2 :: o3 :: .none :: .none :: os)).swap
  have h3 := ((h2.del 5).del 5 : Objs w0 w (.pile (piP T ++ piP F) :: .heads vg (hdP G) :: .heads v (hdP X1 ++ (hdP F ++ hdP X3)) :: o2 :: o3 :: os))
  rw [← hdP_append, ← hdP_append] at h3
  have h4 := h3.deal hp
  rw [lnP_append, lnP_append] at h4
  exact h4
end
/-- A list of rows, parted. -/
theorem parted {α : Type} (T : List α) (a m : Nat) : T = T.take a ++ ((T.drop a).take m ++ T.drop (a + m)) := by
  conv => lhs; rw [← List.take_append_drop a T, ← List.take_append_drop m (T.drop a), List.drop_drop]
theorem lnP_take (T : List Tr) (a : Nat) : lnP (T.take a) = (lnP T).take a := by simp [lnP]
theorem lnP_drop (T : List Tr) (a : Nat) : lnP (T.drop a) = (lnP T).drop a := by simp [lnP]
section
variable {T F : List Tr} {L : List Ln} {top bot k many cols : Nat} {n : Int} {q : Pen}
theorem rollK_is (hm : many = bot + 1 - top) (hk : (n < (many : Int) ∧ -(many : Int) < n ∧ n.natAbs = k) ∨ (((many : Int) ≤ n ∨ n ≤ -(many : Int)) ∧ k = many)) : rollK n (bot + 1 - top) = k := by
  rw [← hm]; unfold rollK
  rcases hk with ⟨h1, h2, h3⟩ | ⟨h1, h2⟩
  · rw [if_pos ⟨h2, h1⟩]; exact h3
  · rw [if_neg (by omega)]; exact h2.symm
/-- Rolled up: what leaves, what is left. -/
theorem gone_pos (hTL : lnP T = L) (hn : 0 < n) (hm : many = bot + 1 - top) (hk : rollK n (bot + 1 - top) = k) (hkm : k ≤ many) : lnP ((T.drop top).take k) = rollGone top bot n L := by
  subst hTL
  unfold rollGone rollIn
  rw [if_neg (by omega), if_pos hn, hk, ← hm, List.take_take, Nat.min_eq_left hkm, lnP_take, lnP_drop]
theorem left_pos (hTL : lnP T = L) (hn : 0 < n) (hm : many = bot + 1 - top) (htb : top ≤ bot) (hk : rollK n (bot + 1 - top) = k) (hkm : k ≤ many) (hF : lnP F = rollFresh k cols q) :
    topHard top (lnP (T.take top ++ hardR ((T.drop (top + k)).take (many - k))) ++ (lnP F ++ lnP ((T.drop (top + (many - k))).drop k))) = rollL top bot n q cols L := by
  subst hTL
  unfold rollL rollMid rollStay rollIn
  rw [if_neg (by omega), if_pos hn, if_pos hn, hk, ← hm, hF, List.drop_take, List.drop_drop, lnP_append, lnP_take, lnP_hardR, lnP_take, lnP_drop, List.drop_drop, lnP_drop, show top + (many - k) + k = bot + 1 by omega]
  simp only [List.append_assoc]
theorem perm_pos (hkm : k ≤ many) : (piP T).Perm (piP ((T.drop top).take k) ++ (piP (T.take top ++ hardR ((T.drop (top + k)).take (many - k))) ++ piP ((T.drop (top + (many - k))).drop k))) := by
  have e : T = T.take top ++ ((T.drop top).take k ++ ((T.drop (top + k)).take (many - k) ++ (T.drop (top + (many - k))).drop k)) := by
    conv => lhs; rw [parted T top k, parted (T.drop (top + k)) 0 (many - k)]
    simp [List.drop_drop, show top + k + (many - k) = top + (many - k) + k by omega]
  conv => lhs; rw [e]
  rw [piP_append, piP_append, piP_append, piP_append, piP_hardR, List.append_assoc]
  exact List.perm_append_comm_assoc _ _ _
/-- Rolled down. -/
theorem gone_neg (hTL : lnP T = L) (hn : n < 0) (hm : many = bot + 1 - top) (hk : rollK n (bot + 1 - top) = k) (hkm : k ≤ many) : lnP ((T.drop (top + (many - k))).take k) = rollGone top bot n L := by
  subst hTL
  unfold rollGone rollIn
  rw [if_neg (by omega), if_neg (by omega), hk, ← hm, List.drop_take, List.drop_drop, show many - (many - k) = k by omega, lnP_take, lnP_drop]
theorem left_neg (hTL : lnP T = L) (hn : n < 0) (hm : many = bot + 1 - top) (htb : top ≤ bot) (hk : rollK n (bot + 1 - top) = k) (hkm : k ≤ many) (hF : lnP F = rollFresh k cols q) :
    topHard top (lnP (T.take top) ++ (lnP F ++ lnP (hardR ((T.drop top).take (many - k)) ++ T.drop (top + many)))) = rollL top bot n q cols L := by
  subst hTL
  unfold rollL rollMid rollStay rollIn
  rw [if_neg (by omega), if_neg (by omega), if_neg (by omega), hk, ← hm, hF, List.take_take, Nat.min_eq_left (by omega), lnP_append, lnP_take, lnP_hardR, lnP_take, lnP_drop, lnP_drop, show top + many = bot + 1 by omega]
  simp only [List.append_assoc]
theorem perm_neg (hkm : k ≤ many) : (piP T).Perm (piP ((T.drop (top + (many - k))).take k) ++ (piP (T.take top) ++ piP (hardR ((T.drop top).take (many - k)) ++ T.drop (top + many)))) := by
  have e : T = T.take top ++ ((T.drop top).take (many - k) ++ ((T.drop (top + (many - k))).take k ++ T.drop (top + many))) := by
    conv => lhs; rw [parted T top (many - k), parted (T.drop (top + (many - k))) 0 k]
    simp [List.drop_drop, show top + (many - k) + k = top + many by omega]
  conv => lhs; rw [e]
  rw [piP_append, piP_append, piP_append, piP_append, piP_hardR]
  exact (List.Perm.append_left _ (List.perm_append_comm_assoc _ _ _)).trans (List.perm_append_comm_assoc _ _ _)
end
end Go.Proofs.YtghahanpmcpacaaDoor

/-
  Roll of the program's grid.
-/
set_option linter.unusedSimpArgs false
set_option linter.unusedVariables false
namespace Go.Proofs.YtghahanpmcpacaaDoor
open Go.RowKit

section
variable {w0 w : World} {os : List Ob}
theorem ord7 {vg v p7 b7 b5 bp : Ob} (h : Objs w0 w (vg :: v :: p7 :: b7 :: b5 :: bp :: os)) : Objs w0 w (v :: b7 :: bp :: vg :: p7 :: b5 :: os) := by
  have h1 := (h.lift (k := 5) rfl : Objs w0 w (bp :: vg :: v :: p7 :: b7 :: b5 :: .none :: os)).del 6
  have h2 := ((show Objs w0 w (bp :: vg :: v :: p7 :: b7 :: b5 :: os) from h1).lift (k := 4) rfl : Objs w0 w (b7 :: bp :: vg :: v :: p7 :: .none :: b5 :: os)).del 5
  have h3 := ((show Objs w0 w (b7 :: bp :: vg :: v :: p7 :: b5 :: os) from h2).lift (k := 3) rfl : Objs w0 w (v :: b7 :: bp :: vg :: .none :: p7 :: b5 :: os)).del 4
  exact h3
/-- Behind the roll: the grid is closed. -/
theorem fin_roll {l2 o2 b5 : Ob} {p : Nat} {t : TypeId} {cols : Int} {v : Value} {L1 : List Ln} (h : Objs w0 w (l2 :: .lines v L1 :: o2 :: .box p t #[.int .i64 cols, v] :: b5 :: os)) : Objs w0 w (l2 :: .grid p t cols L1 :: os) := by
  have h1 := ((h.lift (k := 1) rfl : Objs w0 w (.lines v L1 :: l2 :: .none :: o2 :: .box p t #[.int .i64 cols, v] :: b5 :: os)).closeGrid (k := 3) rfl : Objs w0 w (l2 :: .none :: o2 :: .grid p t cols L1 :: b5 :: os))
  exact ((h1.del 1).del 1).del 2
theorem ord_roll {l2 o2 b5 op : Ob} {v : Value} {L1 : List Ln} (h : Objs w0 w (l2 :: .lines v L1 :: o2 :: op :: b5 :: os)) : Objs w0 w (.lines v L1 :: op :: b5 :: l2 :: o2 :: os) := by
  have h1 := (h.lift (k := 4) rfl : Objs w0 w (b5 :: l2 :: .lines v L1 :: o2 :: op :: .none :: os)).del 5
  have h2 := ((show Objs w0 w (b5 :: l2 :: .lines v L1 :: o2 :: op :: os) from h1).lift (k := 4) rfl : Objs w0 w (op :: b5 :: l2 :: .lines v L1 :: o2 :: .none :: os)).del 5
  have h3 := ((show Objs w0 w (op :: b5 :: l2 :: .lines v L1 :: o2 :: os) from h2).lift (k := 3) rfl : Objs w0 w (.lines v L1 :: op :: b5 :: l2 :: .none :: o2 :: os)).del 4
  exact h3
theorem fin_roll2 {l2 o2 b5 : Ob} {p : Nat} {t : TypeId} {cols : Int} {v : Value} {L1 : List Ln} (h : Objs w0 w (.lines v L1 :: .box p t #[.int .i64 cols, v] :: b5 :: l2 :: o2 :: os)) : Objs w0 w (l2 :: .grid p t cols L1 :: os) := by
  have h1 := (h.closeGrid (k := 0) rfl : Objs w0 w (.grid p t cols L1 :: b5 :: l2 :: o2 :: os))
  exact ((h1.del 1).swap).del 2
end
section
variable {w0 w : World} {os : List Ob} {p cols : Nat} {L : List Ln}
set_option maxRecDepth 100000 in
set_option maxHeartbeats 8000000 in
theorem Roll_pos {top bot k : Nat} {n : Int} (q : Pen) (hT : Tabs w0) (hS : Objs w0 w (.grid p 37 cols L :: os)) (hc : 0 < cols) (hcm : cols ≤ 1000) (hL : L.length ≤ 100000) (htb : top ≤ bot) (hbl : bot < L.length) (hq : q.ok = true) (hn : 0 < n) (hk : (n < ((bot + 1 - top : Nat) : Int) ∧ n = (k : Int)) ∨ ((((bot + 1 - top : Nat) : Int) ≤ n ∧ n ≤ 9223372036854775807) ∧ k = bot + 1 - top)) :
    Calls Tryd.prog 37 #[.pointer (some ⟨p, 0, none⟩), .agg #[.int .i64 top, .int .i64 bot], .int .i64 n, .agg (pv q)] w fun e w' => ∃ A m c, e = .returned (.tuple #[.slice A m c, .int .i64 0]) ∧ Objs w0 w' (.lines (.slice A m c) (rollGone top bot n L) :: .grid p 37 cols (rollL top bot n q cols L) :: os) := by
  have S := Lib.hid hS
  have HT := Lib.hid hT
  have HQ := Lib.hid hq
  have HK := Lib.hid hk
  obtain ⟨many, hmany⟩ : ∃ many, many = bot + 1 - top := ⟨_, rfl⟩
  have HMANY := Lib.hid hmany
  have hb0 := beq_no (show ¬ n = 0 by omega)
  have d1 : decide ((top : Int) < 0) = false := by simp
  have d2 : decide ((bot : Int) < top) = false := by simp; omega
  have d2n : decide (bot < top) = false := by simp; omega
  have d3 : decide ((L.length : Int) ≤ bot) = false := by simp; omega
  have d3n : decide (L.length ≤ bot) = false := by simp; omega
  clear hS hT hq hk hmany
  go_enter Tryd.func37, Tryd.ntmps37
  go_wp2_with fail
  refine (none_no S.out.alloc2 (k := 2) rfl hc).mono ?_
  rintro e w1 ⟨rfl, hS⟩
  generalize w.heap.size + 1 = b7 at hS ⊢
  generalize w.heap.size = b5 at hS ⊢
  obtain ⟨v, hS1⟩ := hS.openGrid (k := 2) rfl
  obtain ⟨T, hTL, hone, hS2⟩ := hS1.toHeads (k := 0) rfl
  obtain ⟨A, c, rfl, hlc, hcmx, -, hgr⟩ := hS2.headsForm (k := 1) rfl
  have hTl : (hdP T).length = L.length := by rw [hdP_length, ← hTL, lnP_length]
  rw [hTl] at hS2 hlc hgr
  obtain ⟨gr, rfl, hgz, -, -⟩ := hgr (by omega)
  have S2 := Lib.hid hS2
  obtain ⟨hx5, hf5, hz5⟩ := (hS2.box (k := 3) rfl).facts
  obtain ⟨hxp, hfp, hzp⟩ := (hS2.box (k := 4) rfl).facts
  have HTL := Lib.hid hTL
  have HTl := Lib.hid hTl
  have HONE := Lib.hid hone
  clear hS hS1 hS2 S hTL hTl hone hgr hgz
  go_wp2_with fail
  refine wp_region_below (by kernel_rfl) (by kernel_rfl) ?_
  repeat (go_big_quiet_step (fail))
  refine wpQuiet_nil ?_
  intro w2 hb2
  have S3 := Lib.hid (S2.out.bel hb2)
  clear hx5 hf5 hz5 hxp hfp hzp S2 hb2
  have hp7 := (S3.out.box (k := 2) rfl).penAt
  have hz7 := (S3.out.box (k := 2) rfl).lt
  go_wp2_with fail
  refine (inked_is HQ.out HT.out S3.out).mono ?_
  rintro e w3 ⟨rfl, hS⟩
  have S4 := Lib.hid hS
  obtain ⟨hx5, hf5, hz5⟩ := (hS.box (k := 3) rfl).facts
  obtain ⟨hxp, hfp, hzp⟩ := (hS.box (k := 4) rfl).facts
  clear hS S3 hp7 hz7
  go_wp2_with fail
  refine wp_region_below (by kernel_rfl) (by kernel_rfl) ?_
  repeat (go_big_quiet_step (fail))
  refine wpQuiet_nil ?_
  intro w4 hb4
  have S5 := Lib.hid (show Objs w0 w4 (.pile (piP T) :: .heads (.slice (some ⟨gr, 0, none⟩) L.length c) (hdP T) :: .box b7 31 (pv q) :: .box b5 23 #[.int .i64 top, .int .i64 bot] :: .box p 37 #[.int .i64 cols, .slice (some ⟨gr, 0, none⟩) L.length c] :: os) from S4.out.bel hb4)
  clear hx5 hf5 hz5 hxp hfp hzp S4 hb4
  rw [← HMANY.out]
  have hmb : many ≤ 100000 := by have := HMANY.out; omega
  have hm1 : 0 < many := by have := HMANY.out; omega
  have htm : top + many ≤ L.length := by have := HMANY.out; omega
  have hkm : k ≤ many := by have := HK.out; have := HMANY.out; omega
  have hk0 : 0 < k := by have := HK.out; have := HMANY.out; omega
  have hctop : many ≤ c - top := by omega
  have HK2 := HK.out
  rw [← HMANY.out] at HK2
  have HKK := Lib.hid (rollK_is (n := n) (k := k) HMANY.out (by rcases HK2 with ⟨a1, a2⟩ | ⟨⟨a1, a3⟩, a2⟩ <;> omega))
  have HPERM := Lib.hid (perm_pos (T := T) (top := top) hkm)
  have HGONE := Lib.hid (gone_pos HTL.out hn HMANY.out HKK.out hkm)
  have HLEFT := Lib.hid (fun (F : List Tr) (hF : lnP F = rollFresh k cols q) => left_pos HTL.out hn HMANY.out htb HKK.out hkm hF)
  obtain ⟨G, hG⟩ : ∃ G, G = (T.drop top).take k := ⟨_, rfl⟩
  obtain ⟨T1, hT1⟩ : ∃ T1, T1 = T.take top := ⟨_, rfl⟩
  obtain ⟨Sx, hSx⟩ : ∃ Sx, Sx = (T.drop (top + k)).take (many - k) := ⟨_, rfl⟩
  obtain ⟨R, hR⟩ : ∃ R, R = T.drop (top + (many - k)) := ⟨_, rfl⟩
  obtain ⟨X1, hX1⟩ : ∃ X1, X1 = T1 ++ hardR Sx := ⟨_, rfl⟩
  obtain ⟨a0, ha0⟩ : ∃ a0, a0 = top + (many - k) := ⟨_, rfl⟩
  have hTn : T.length = L.length := by have := HTl.out; rwa [hdP_length] at this
  have hT1l : T1.length = top := by rw [hT1]; simp; omega
  have hSxl : Sx.length = many - k := by rw [hSx]; simp; omega
  have hRll : R.length = L.length - a0 := by rw [hR, ha0]; simp; omega
  have HX1 := Lib.hid (show X1.length = a0 by rw [hX1, ha0]; simp [hardR_length, hT1l, hSxl])
  have HRL := Lib.hid hRll
  have hRk : k ≤ R.length := by omega
  rw [← hT1, ← hSx, ← hR, ← hX1, ← hG] at HPERM
  rw [← hT1, ← hSx, ← hR, ← hX1] at HLEFT
  rw [← hG] at HGONE
  have HG := Lib.hid hG.symm
  have HCP := Lib.hid (hdP_copied T top (top + k) (many - k))
  rw [← hT1, ← hSx, ← hR] at HCP
  have HXX := Lib.hid hX1
  have HA0 := Lib.hid ha0
  have HSXL := Lib.hid hSxl
  have HT1L := Lib.hid hT1l
  have HRLL := Lib.hid hRll
  have HPB := Lib.hid (show many = k → (hdP T).take top ++ (((hdP T).drop top).take 0 ++ (hdP T).drop (top + 0)) = hdP X1 ++ hdP R from fun e => by
    have hS0 : Sx = [] := List.eq_nil_of_length_eq_zero (by omega)
    have h := HCP.out
    rw [show many - k = 0 by omega] at h
    rw [HXX.out, hS0, hdP_append, List.append_assoc]
    rw [hS0] at h
    simp only [List.take_zero] at h ⊢
    exact h)
  clear hG hT1 hSx hR hX1 hTn hT1l hSxl hRll
  rcases HK2 with ⟨h1, h2⟩ | ⟨⟨h1, h3⟩, h2⟩
  · subst h2
    have hmax : max (k : Int) (-(k : Int)) = (k : Int) := by omega
    have hnm : -(many : Int) < (k : Int) := by omega
    have hkl : k < many := by omega
    clear ha0
    go_wp2_with fail
    refine (clone_front S5.out.swap HONE.out (a := top) (m := k) (by rw [HTl.out]; omega) (by omega) (by rw [HTl.out]; omega)).mono ?_
    rintro e w5 ⟨Ag, cg, rfl, hS⟩
    obtain ⟨w6, hr6, hS6⟩ := run_copyH hS (k := 1) rfl HONE.out top (top + k) (many - k) (some ⟨gr, top * 2, none⟩) (some ⟨gr, top * 2 + k * 2, none⟩) many (c - top) (many - k) (c - top - k) (Nat.min_eq_left (by omega)) (by rw [HTl.out]; omega) (by rw [HTl.out]; omega) (fun _ => ⟨rfl, by rw [Nat.add_mul]⟩) 3
    have HR6 := Lib.hid hr6
    rw [hdP_drop, hdP_take, HG.out, HCP.out] at hS6
    have hS6' := (show Objs w0 w6 (.heads (.slice Ag k cg) (hdP G) :: .heads (.slice (some ⟨gr, 0, none⟩) L.length c) (hdP T1 ++ (hdP Sx ++ hdP R)) :: .pile (piP T) :: .box b7 31 (pv q) :: .box b5 23 #[.int .i64 top, .int .i64 bot] :: .box p 37 #[.int .i64 cols, .slice (some ⟨gr, 0, none⟩) L.length c] :: os) from hS6)
    have hSl := HSXL.out
    have hTl2 := HT1L.out
    obtain ⟨xs, hxs⟩ := get_of (show Sx.length - 1 < Sx.length by omega)
    have hxh : (hdP T1 ++ (hdP Sx ++ hdP R))[top + (many - k - 1)]? = some (xs.1, xs.2.2) := by
      rw [List.getElem?_append_right (by rw [hdP_length]; omega), hdP_length, hTl2, Nat.add_sub_cancel_left, List.getElem?_append_left (by rw [hdP_length]; omega), ← hSl]
      simp [hdP, hxs]
    have hS7 := hS6'.softHead (k := 1) (s := false) rfl hxh
    have hid : top + (many - k - 1) = T1.length + (Sx.length - 1) := by omega
    have he : hdP T1 ++ (hdP (hardR Sx) ++ hdP R) = hdP X1 ++ hdP R := by rw [HXX.out, hdP_append, List.append_assoc]
    rw [hid, hdP_harden hxs, he, ← hid] at hS7
    obtain ⟨A8, c8, e8, -, -, -, hg8⟩ := hS6'.headsForm (k := 1) rfl
    simp only [Value.slice.injEq] at e8
    obtain ⟨rfl, -, rfl⟩ := e8
    obtain ⟨g8, e9, hz8, hcs8, hf8⟩ := hg8 (by simp only [List.length_append, hdP_length]; omega)
    cases e9
    have hx8 := (hcs8 _ _ hxh).2
    have hadr : (top + (many - k - 1)) * 2 + 1 = top * 2 + (many - k - 1) * 2 + 1 := by omega
    rw [hadr] at hx8 hS7
    have S7 := Lib.hid (ord7 hS7)
    have HMK := Lib.hid (show many - (many - k) = k from Nat.sub_sub_self hkm)
    have HAO := HA0.out
    clear hS hr6 hS6 hS6' S5 hS7 hxh hid he hcs8 hg8 hadr hSl hTl2 hxs
    go_wp2_with (refine wpList_copyK rfl _ _ 35 35 rfl rfl rfl HR6.out ?_)
    simp only [HMK.out]
    clear hx8 hf8 hz8 hmax hnm
    go_loopw [14, 127] (fun _ vi wr => ∃ (d : Nat) (F : List Tr), d ≤ k ∧ vi = .int .i64 d ∧ (F.length = d ∧ lnP F = rollFresh d cols q) ∧ Objs w0 wr (.heads (.slice (some ⟨gr, 0, none⟩) L.length c) (hdP X1 ++ (hdP F ++ hdP (R.drop d))) :: .box b7 31 (pv q) :: .box p 37 #[.int .i64 ↑cols, .slice (some ⟨gr, 0, none⟩) L.length c] :: .heads (.slice Ag k cg) (hdP G) :: .pile (piP T ++ piP F) :: .box b5 23 #[.int .i64 ↑top, .int .i64 ↑bot] :: os)) (fun _ vi _ => k - (intOf vi).toNat)
    case atStart => exact ⟨0, [], by omega, rfl, ⟨rfl, rfl⟩, by simpa [hdP, piP] using S7.out⟩
    case round =>
      obtain ⟨d, F, hik, rfl, hFF, hS⟩ := hrel
      have HF := Lib.hid hFF
      have S8 := Lib.hid hS
      clear hFF hS S7
      by_cases hlt : d < k
      case neg =>
        have hie : d = k := by omega
        have hX := S8.out
        have hFk := HF.out.2
        rw [hie] at hX hFk
        have hX2 := hX.dealIn HPERM.out
        have HLF := Lib.hid (HLEFT.out F hFk)
        obtain ⟨L1, hL1⟩ : ∃ L1, L1 = lnP X1 ++ (lnP F ++ lnP (R.drop k)) := ⟨_, rfl⟩
        rw [← hL1] at hX2 HLF
        have hL1l : L1.length = L.length := by rw [hL1]; simp only [List.length_append, lnP_length, List.length_drop]; have := HX1.out; have := HF.out.1; have := HRL.out; omega
        have SX := Lib.hid hX2
        obtain ⟨hx5, hf5, hz5⟩ := (hX2.box (k := 4) rfl).facts
        clear hie hX hX2 hFk hL1 S8
        by_cases ht0 : top = 0
        · have HT0 := Lib.hid (show topHard top L1 = L1 by unfold topHard; rw [if_neg (by omega)])
          have htg : ¬ (0 : Int) < (top : Int) := by omega
          have SF := Lib.hid (fin_roll SX.out)
          clear ht0
          go_wp2_with fail
          go_ret2
          exact ⟨Ag, k, cg, rfl, by rw [← HGONE.out, ← HLF.out, HT0.out]; exact SF.out⟩
        · have htg : (0 : Int) < (top : Int) := by omega
          obtain ⟨l9, hlt1⟩ := get_of (show top - 1 < L1.length by omega)
          have HT0 := Lib.hid (show L1.set (top - 1) (l9.1, false) = topHard top L1 by unfold topHard; rw [if_pos (by omega), softMod_some hlt1])
          have HWT := Lib.hid (show IntKind.i64.wrap ((top : Int) - 1) = (top : Int) - 1 from IntWalk.i64_in _ (by omega))
          have htz : (0 : Int) ≤ (top : Int) - 1 := by omega
          have htz2 : (top : Int) - 1 < (L.length : Int) := by omega
          have htz3 : ¬ (top : Int) < 1 := by omega
          have htn : ((top : Int) - 1).toNat = top - 1 := by omega
          have SY := Lib.hid (ord_roll SX.out)
          go_upto_region 31 with (fail)
          refine wp_region_stage (w0 := w0) (os := (.lines (.slice Ag k cg) (lnP G) :: .box b7 31 (pv q) :: os)) (by kernel_rfl) (by kernel_rfl) (by kernel_rfl) [(0, 9, [], fun vs => .lines (.slice (some ⟨gr, 0, none⟩) L.length c) (L1.set (top - 1) (l9.1, false)))] [[], [], [], [1], [], [2], [], [], [], [0]] [.lines (.slice (some ⟨gr, 0, none⟩) L.length c) L1, .box p 37 #[.int .i64 ↑cols, .slice (some ⟨gr, 0, none⟩) L.length c], .box b5 23 #[.int .i64 ↑top, .int .i64 ↑bot]] (fun i u => match i with | 0 => u = (.pointer (some ⟨p, 0, none⟩) : Value) | 1 => u = (.pointer (some ⟨p, 0, none⟩) : Value) | 2 => u = (.pointer (some ⟨p, 1, none⟩) : Value) | 3 => u = (.slice (some ⟨gr, 0, none⟩) L.length c : Value) | 4 => u = (.pointer (some ⟨b5, 0, none⟩) : Value) | 5 => u = (.int .i64 ↑top : Value) | 6 => u = (.int .i64 (↑top - 1) : Value) | 7 => u = (.pointer (some ⟨gr, (top - 1) * 2, none⟩) : Value) | 8 => u = (.pointer (some ⟨gr, (top - 1) * 2 + 1, none⟩) : Value) | 9 => True | _ => True) (fun vs => [.lines (.slice (some ⟨gr, 0, none⟩) L.length c) (L1.set (top - 1) (l9.1, false)), .box p 37 #[.int .i64 ↑cols, .slice (some ⟨gr, 0, none⟩) L.length c], .box b5 23 #[.int .i64 ↑top, .int .i64 ↑bot]]) (by kernel_rfl) (fun vs => by rfl) SY.out ?_ ?_
          · refine SSteps.cons (fun a w' vs σ hS hl hs hk => ?_) ?_
            · have e0 : a.tmps.getD 0 undef = (.pointer (some ⟨p, 0, none⟩) : Value) := (sk_old hk 0 (by kernel_rfl)).trans rfl
              have f0 := gd e0
              exact ro_pure (v := .pointer (some ⟨p, 0, none⟩)) (wanted_none rfl) (by simp [execOp, Act.eval, e0, f0, go_sem]) (sp_same (by kernel_rfl) hl hs hS (show (.pointer (some ⟨p, 0, none⟩) : Value) = _ from rfl)) trivial
            refine SSteps.cons (fun a w' vs σ hS hl hs hk => ?_) ?_
            · have e143 : a.tmps.getD 143 undef = (.pointer (some ⟨p, 0, none⟩) : Value) := (sk_val hk 0 (by kernel_rfl) rfl rfl).trans ((hk.1 0 (by kernel_rfl)).1)
              have f143 := gd e143
              exact ro_pure (v := .pointer (some ⟨p, 0, none⟩)) (wanted_none rfl) (by simp [execOp, Act.eval, e143, f143, go_sem]) (sp_same (by kernel_rfl) hl hs hS (show (.pointer (some ⟨p, 0, none⟩) : Value) = _ from rfl)) trivial
            refine SSteps.cons (fun a w' vs σ hS hl hs hk => ?_) ?_
            · have e144 : a.tmps.getD 144 undef = (.pointer (some ⟨p, 0, none⟩) : Value) := (sk_val hk 1 (by kernel_rfl) rfl rfl).trans ((hk.1 1 (by kernel_rfl)).1)
              have f144 := gd e144
              exact ro_pure (v := .pointer (some ⟨p, 1, none⟩)) (wanted_none rfl) (by simp [execOp, Act.eval, e144, f144, go_sem]) (sp_same (by kernel_rfl) hl hs hS (show (.pointer (some ⟨p, 1, none⟩) : Value) = _ from rfl)) trivial
            refine SSteps.cons (fun a w' vs σ hS hl hs hk => ?_) ?_
            · have e145 : a.tmps.getD 145 undef = (.pointer (some ⟨p, 1, none⟩) : Value) := (sk_val hk 2 (by kernel_rfl) rfl rfl).trans ((hk.1 2 (by kernel_rfl)).1)
              have f145 := gd e145
              have hx := (hS.box (sg (hs 1 (by decide)))).cell
              exact ro_pure (v := .slice (some ⟨gr, 0, none⟩) L.length c) (wanted_none rfl) (by simp [execOp, Act.eval, e145, f145, go_sem, hx]) (sp_same (by kernel_rfl) hl hs hS (show (.slice (some ⟨gr, 0, none⟩) L.length c : Value) = _ from rfl)) trivial
            refine SSteps.cons (fun a w' vs σ hS hl hs hk => ?_) ?_
            · have e5 : a.tmps.getD 5 undef = (.pointer (some ⟨b5, 0, none⟩) : Value) := (sk_old hk 5 (by kernel_rfl)).trans rfl
              have f5 := gd e5
              exact ro_pure (v := .pointer (some ⟨b5, 0, none⟩)) (wanted_none rfl) (by simp [execOp, Act.eval, e5, f5, go_sem]) (sp_same (by kernel_rfl) hl hs hS (show (.pointer (some ⟨b5, 0, none⟩) : Value) = _ from rfl)) trivial
            refine SSteps.cons (fun a w' vs σ hS hl hs hk => ?_) ?_
            · have e147 : a.tmps.getD 147 undef = (.pointer (some ⟨b5, 0, none⟩) : Value) := (sk_val hk 4 (by kernel_rfl) rfl rfl).trans ((hk.1 4 (by kernel_rfl)).1)
              have f147 := gd e147
              have hx := (hS.box (sg (hs 2 (by decide)))).cell
              exact ro_pure (v := .int .i64 ↑top) (wanted_none rfl) (by simp [execOp, Act.eval, e147, f147, go_sem, hx]) (sp_same (by kernel_rfl) hl hs hS (show (.int .i64 ↑top : Value) = _ from rfl)) trivial
            refine SSteps.cons (fun a w' vs σ hS hl hs hk => ?_) ?_
            · have e148 : a.tmps.getD 148 undef = (.int .i64 ↑top : Value) := (sk_val hk 5 (by kernel_rfl) rfl rfl).trans ((hk.1 5 (by kernel_rfl)).1)
              have f148 := gd e148
              exact ro_pure (v := .int .i64 (↑top - 1)) (wanted_none rfl) (by simp [execOp, Act.eval, e148, f148, go_sem, HWT.out]) (sp_same (by kernel_rfl) hl hs hS (show (.int .i64 (↑top - 1) : Value) = _ from rfl)) trivial
            refine SSteps.cons (fun a w' vs σ hS hl hs hk => ?_) ?_
            · have e146 : a.tmps.getD 146 undef = (.slice (some ⟨gr, 0, none⟩) L.length c : Value) := (sk_val hk 3 (by kernel_rfl) rfl rfl).trans ((hk.1 3 (by kernel_rfl)).1)
              have f146 := gd e146
              have e149 : a.tmps.getD 149 undef = (.int .i64 (↑top - 1) : Value) := (sk_val hk 6 (by kernel_rfl) rfl rfl).trans ((hk.1 6 (by kernel_rfl)).1)
              have f149 := gd e149
              exact ro_pure (v := .pointer (some ⟨gr, (top - 1) * 2, none⟩)) (wanted_none rfl) (by simp [execOp, Act.eval, e146, f146, e149, f149, go_sem, htz, htz2, htn, htz3]) (sp_same (by kernel_rfl) hl hs hS (show (.pointer (some ⟨gr, (top - 1) * 2, none⟩) : Value) = _ from rfl)) trivial
            refine SSteps.cons (fun a w' vs σ hS hl hs hk => ?_) ?_
            · have e150 : a.tmps.getD 150 undef = (.pointer (some ⟨gr, (top - 1) * 2, none⟩) : Value) := (sk_val hk 7 (by kernel_rfl) rfl rfl).trans ((hk.1 7 (by kernel_rfl)).1)
              have f150 := gd e150
              exact ro_pure (v := .pointer (some ⟨gr, (top - 1) * 2 + 1, none⟩)) (wanted_none rfl) (by simp [execOp, Act.eval, e150, f150, go_sem]) (sp_same (by kernel_rfl) hl hs hS (show (.pointer (some ⟨gr, (top - 1) * 2 + 1, none⟩) : Value) = _ from rfl)) trivial
            refine SSteps.cons (fun a w' vs σ hS hl hs hk => ?_) ?_
            · have e151 : a.tmps.getD 151 undef = (.pointer (some ⟨gr, (top - 1) * 2 + 1, none⟩) : Value) := (sk_val hk 8 (by kernel_rfl) rfl rfl).trans ((hk.1 8 (by kernel_rfl)).1)
              have f151 := gd e151
              have h1 : σ[0]? = some (.lines (.slice (some ⟨gr, 0, none⟩) L.length c) L1) := hs 0 (by decide)
              obtain ⟨F9, bs9, hF9, -⟩ := hS.get (sg h1)
              obtain ⟨A9, c9, e9, -, -, -, hg9⟩ := hF9.form
              simp only [Value.slice.injEq] at e9
              obtain ⟨rfl, -, rfl⟩ := e9
              obtain ⟨g9, e9', hz, -, hso, hf⟩ := hg9 (by omega)
              cases e9'
              have hx := hso _ _ hlt1
              exact rstep_store (w2 := w'.setCell ⟨gr, (top - 1) * 2 + 1, none⟩ (.bool false)) (wanted_none rfl) rfl (by simp [execOp, Act.eval, e151, f151, hx, hf, hz, go_sem]) (sp_set 0 (.lines (.slice (some ⟨gr, 0, none⟩) L.length c) (L1.set (top - 1) (l9.1, false))) (by kernel_rfl) (by simp) (by decide) hl hs (by rfl) (hS.storeSoft (sg h1) hlt1) trivial) trivial
            exact SSteps.nil
          · intro vs w' hS hv
            have q0 := (show vs 0 = (.pointer (some ⟨p, 0, none⟩) : Value) from hv 0 (by decide))
            have q1 := (show vs 1 = (.pointer (some ⟨p, 0, none⟩) : Value) from hv 1 (by decide))
            have q2 := (show vs 2 = (.pointer (some ⟨p, 1, none⟩) : Value) from hv 2 (by decide))
            have q3 := (show vs 3 = (.slice (some ⟨gr, 0, none⟩) L.length c : Value) from hv 3 (by decide))
            have q4 := (show vs 4 = (.pointer (some ⟨b5, 0, none⟩) : Value) from hv 4 (by decide))
            have q5 := (show vs 5 = (.int .i64 ↑top : Value) from hv 5 (by decide))
            have q6 := (show vs 6 = (.int .i64 (↑top - 1) : Value) from hv 6 (by decide))
            have q7 := (show vs 7 = (.pointer (some ⟨gr, (top - 1) * 2, none⟩) : Value) from hv 7 (by decide))
            have q8 := (show vs 8 = (.pointer (some ⟨gr, (top - 1) * 2 + 1, none⟩) : Value) from hv 8 (by decide))
            have S2 := Lib.hid hS
            simp only [putL, Act.put, Nat.zero_add, Nat.reduceAdd, List.setIfInBounds_toArray, List.set_cons_succ, List.set_cons_zero, q0, q1, q2, q3, q4, q5, q6, q7, q8]
            clear hS hv q0 q1 q2 q3 q4 q5 q6 q7 q8
            have S9 := S2.out
            rw [HT0.out] at S9
            have SF := Lib.hid (fin_roll2 S9)
            clear S9 S2
            go_wp2_with fail
            go_ret2
            exact ⟨Ag, k, cg, rfl, by rw [← HGONE.out, ← HLF.out]; exact SF.out⟩
      have hiR : d < R.length := by omega
      have hiz : (0 : Int) ≤ (d : Int) := by omega
      have hiz2 : (d : Int) < (k : Int) := by omega
      have hoff : top * 2 + (many - k) * 2 + d * 2 = (a0 + d) * 2 := by omega
      have HHL := Lib.hid (show (hdP X1 ++ (hdP F ++ hdP (R.drop d))).length = a0 + (d + (R.length - d)) by simp only [List.length_append, hdP_length, List.length_drop, HX1.out, HF.out.1])
      have SZ := Lib.hid S8.out.pad
      clear S8
      go_upto_region 28 with (fail)
      refine wp_region_stage (w0 := w0) (os := (.heads (.slice Ag k cg) (hdP G) :: .pile (piP T ++ piP F) :: .box b5 23 #[.int .i64 ↑top, .int .i64 ↑bot] :: os)) (by kernel_rfl) (by kernel_rfl) (by kernel_rfl) [(0, 7, [7], fun vs => .cells (lineV (vs 7)) (List.replicate cols (blank q))), (1, 9, [7], fun vs => .heads (.slice (some ⟨gr, 0, none⟩) L.length c) (List.set (hdP X1 ++ (hdP F ++ hdP (R.drop d))) (a0 + d) (lineV (vs 7), false)))] [[], [], [], [], [], [3], [2], [0], [], [1]] [.none, .heads (.slice (some ⟨gr, 0, none⟩) L.length c) (hdP X1 ++ (hdP F ++ hdP (R.drop d))), .box b7 31 (pv q), .box p 37 #[.int .i64 ↑cols, .slice (some ⟨gr, 0, none⟩) L.length c]] (fun i u => match i with | 0 => u = (.slice (some ⟨gr, top * 2 + (many - k) * 2, none⟩) k (c - top - (many - k)) : Value) | 1 => u = (.int .i64 ↑d : Value) | 2 => u = (.pointer (some ⟨p, 0, none⟩) : Value) | 3 => u = (.pointer (some ⟨p, 0, none⟩) : Value) | 4 => u = (.pointer (some ⟨p, 0, none⟩) : Value) | 5 => u = (.int .i64 ↑cols : Value) | 6 => u = (.agg (pv q) : Value) | 7 => ∃ A m c, u = .agg #[.slice A m c, .bool false] | 8 => u = (.pointer (some ⟨gr, (a0 + d) * 2, none⟩) : Value) | 9 => True | _ => True) (fun vs => [.cells (lineV (vs 7)) (List.replicate cols (blank q)), .heads (.slice (some ⟨gr, 0, none⟩) L.length c) (List.set (hdP X1 ++ (hdP F ++ hdP (R.drop d))) (a0 + d) (lineV (vs 7), false)), .box b7 31 (pv q), .box p 37 #[.int .i64 ↑cols, .slice (some ⟨gr, 0, none⟩) L.length c]]) (by kernel_rfl) (fun vs => by rfl) SZ.out ?_ ?_
      · refine SSteps.cons (fun a w' vs σ hS hl hs hk => ?_) ?_
        · have e13 : a.tmps.getD 13 undef = (.slice (some ⟨gr, top * 2 + (many - k) * 2, none⟩) k (c - top - (many - k)) : Value) := (sk_old hk 13 (by kernel_rfl)).trans rfl
          have f13 := gd e13
          exact ro_pure (v := .slice (some ⟨gr, top * 2 + (many - k) * 2, none⟩) k (c - top - (many - k))) (wanted_none rfl) (by simp [execOp, Act.eval, e13, f13, go_sem]) (sp_same (by kernel_rfl) hl hs hS (show (.slice (some ⟨gr, top * 2 + (many - k) * 2, none⟩) k (c - top - (many - k)) : Value) = _ from rfl)) trivial
        refine SSteps.cons (fun a w' vs σ hS hl hs hk => ?_) ?_
        · have e14 : a.tmps.getD 14 undef = (.int .i64 ↑d : Value) := (sk_old hk 14 (by kernel_rfl)).trans rfl
          have f14 := gd e14
          exact ro_pure (v := .int .i64 ↑d) (wanted_none rfl) (by simp [execOp, Act.eval, e14, f14, go_sem]) (sp_same (by kernel_rfl) hl hs hS (show (.int .i64 ↑d : Value) = _ from rfl)) trivial
        refine SSteps.cons (fun a w' vs σ hS hl hs hk => ?_) ?_
        · have e0 : a.tmps.getD 0 undef = (.pointer (some ⟨p, 0, none⟩) : Value) := (sk_old hk 0 (by kernel_rfl)).trans rfl
          have f0 := gd e0
          exact ro_pure (v := .pointer (some ⟨p, 0, none⟩)) (wanted_none rfl) (by simp [execOp, Act.eval, e0, f0, go_sem]) (sp_same (by kernel_rfl) hl hs hS (show (.pointer (some ⟨p, 0, none⟩) : Value) = _ from rfl)) trivial
        refine SSteps.cons (fun a w' vs σ hS hl hs hk => ?_) ?_
        · have e132 : a.tmps.getD 132 undef = (.pointer (some ⟨p, 0, none⟩) : Value) := (sk_val hk 2 (by kernel_rfl) rfl rfl).trans ((hk.1 2 (by kernel_rfl)).1)
          have f132 := gd e132
          exact ro_pure (v := .pointer (some ⟨p, 0, none⟩)) (wanted_none rfl) (by simp [execOp, Act.eval, e132, f132, go_sem]) (sp_same (by kernel_rfl) hl hs hS (show (.pointer (some ⟨p, 0, none⟩) : Value) = _ from rfl)) trivial
        refine SSteps.cons (fun a w' vs σ hS hl hs hk => ?_) ?_
        · have e133 : a.tmps.getD 133 undef = (.pointer (some ⟨p, 0, none⟩) : Value) := (sk_val hk 3 (by kernel_rfl) rfl rfl).trans ((hk.1 3 (by kernel_rfl)).1)
          have f133 := gd e133
          exact ro_pure (v := .pointer (some ⟨p, 0, none⟩)) (wanted_none rfl) (by simp [execOp, Act.eval, e133, f133, go_sem]) (sp_same (by kernel_rfl) hl hs hS (show (.pointer (some ⟨p, 0, none⟩) : Value) = _ from rfl)) trivial
        refine SSteps.cons (fun a w' vs σ hS hl hs hk => ?_) ?_
        · have e134 : a.tmps.getD 134 undef = (.pointer (some ⟨p, 0, none⟩) : Value) := (sk_val hk 4 (by kernel_rfl) rfl rfl).trans ((hk.1 4 (by kernel_rfl)).1)
          have f134 := gd e134
          have hx := (hS.box (sg (hs 3 (by decide)))).cell
          exact ro_pure (v := .int .i64 ↑cols) (wanted_none rfl) (by simp [execOp, Act.eval, e134, f134, go_sem, hx]) (sp_same (by kernel_rfl) hl hs hS (show (.int .i64 ↑cols : Value) = _ from rfl)) trivial
        refine SSteps.cons (fun a w' vs σ hS hl hs hk => ?_) ?_
        · have e7 : a.tmps.getD 7 undef = (.pointer (some ⟨b7, 0, none⟩) : Value) := (sk_old hk 7 (by kernel_rfl)).trans rfl
          have f7 := gd e7
          have hx := (hS.box (sg (hs 2 (by decide)))).penAt
          exact ro_pure (v := .agg (pv q)) (wanted_none rfl) (by simp [execOp, Act.eval, e7, f7, go_sem, hx]) (sp_same (by kernel_rfl) hl hs hS (show (.agg (pv q) : Value) = _ from rfl)) trivial
        refine SSteps.cons (fun a w' vs σ hS hl hs hk => ?_) ?_
        · have e135 : a.tmps.getD 135 undef = (.int .i64 ↑cols : Value) := (sk_val hk 5 (by kernel_rfl) rfl rfl).trans ((hk.1 5 (by kernel_rfl)).1)
          have f135 := gd e135
          have e136 : a.tmps.getD 136 undef = (.agg (pv q) : Value) := (sk_val hk 6 (by kernel_rfl) rfl rfl).trans ((hk.1 6 (by kernel_rfl)).1)
          have f136 := gd e136
          have h0 : σ[0]? = some .none := hs 0 (by decide)
          exact ro_call (f := 67) (wanted_none rfl) rfl (by simp only [List.map_toArray, List.map_cons, List.map_nil, Act.eval, e135, e136] <;> rfl) (fun _ _ => by kernel_rfl) ((gridblanks_any cols hcm q _ _ _ hS).mono fun e w2 ⟨x, h1, h2⟩ => ⟨_, h1, sp_set 0 (.cells x (List.replicate cols (blank q))) (by kernel_rfl) (by simp) (by decide) hl hs (by rfl) (h2.place (sg h0)) (by obtain ⟨A', c', e, -⟩ := h2.cellsRd (k := 0) rfl; exact ⟨A', _, c', by rw [e]⟩), trivial⟩)
        refine SSteps.cons (fun a w' vs σ hS hl hs hk => ?_) ?_
        · have e130 : a.tmps.getD 130 undef = (.slice (some ⟨gr, top * 2 + (many - k) * 2, none⟩) k (c - top - (many - k)) : Value) := (sk_val hk 0 (by kernel_rfl) rfl rfl).trans ((hk.1 0 (by kernel_rfl)).1)
          have f130 := gd e130
          have e131 : a.tmps.getD 131 undef = (.int .i64 ↑d : Value) := (sk_val hk 1 (by kernel_rfl) rfl rfl).trans ((hk.1 1 (by kernel_rfl)).1)
          have f131 := gd e131
          exact ro_pure (v := .pointer (some ⟨gr, (a0 + d) * 2, none⟩)) (wanted_none rfl) (by simp [execOp, Act.eval, e130, f130, e131, f131, go_sem, hiz, hiz2, hoff]) (sp_same (by kernel_rfl) hl hs hS (show (.pointer (some ⟨gr, (a0 + d) * 2, none⟩) : Value) = _ from rfl)) trivial
        refine SSteps.cons (fun a w' vs σ hS hl hs hk => ?_) ?_
        · have e138 : a.tmps.getD 138 undef = (.pointer (some ⟨gr, (a0 + d) * 2, none⟩) : Value) := (sk_val hk 8 (by kernel_rfl) rfl rfl).trans ((hk.1 8 (by kernel_rfl)).1)
          have f138 := gd e138
          have e137 : a.tmps.getD 137 undef = vs 7 := sk_val hk 7 (by kernel_rfl) rfl rfl
          have p137 : (fun u : Value => ∃ A m c, u = .agg #[.slice A m c, .bool false]) (vs 7) := (hk.1 7 (by kernel_rfl)).1
          have f137 := gd e137
          obtain ⟨A7, n7, c7, q7⟩ := p137
          have h1 : σ[1]? = some (.heads (.slice (some ⟨gr, 0, none⟩) L.length c) (hdP X1 ++ (hdP F ++ hdP (R.drop d)))) := hs 1 (by decide)
          obtain ⟨A8, c8, e8, -, -, -, hg8⟩ := hS.headsForm (sg h1)
          simp only [Value.slice.injEq] at e8
          obtain ⟨rfl, -, rfl⟩ := e8
          have hHl := HHL.out
          obtain ⟨g8, e9, hz, hcs, hf⟩ := hg8 (by omega)
          cases e9
          obtain ⟨x8, hx8⟩ := get_of (show a0 + d < (hdP X1 ++ (hdP F ++ hdP (R.drop d))).length by omega)
          obtain ⟨hx, hx'⟩ := hcs (a0 + d) x8 hx8
          exact rstep_store (w2 := (w'.setCell ⟨gr, (a0 + d) * 2, none⟩ (.slice A7 n7 c7)).setCell ⟨gr, (a0 + d) * 2 + 1, none⟩ (.bool false)) (wanted_none rfl) rfl (by simp [execOp, Act.eval, e138, f138, e137, f137, q7, hx, hx', hf, hz, go_sem]) (sp_set 1 (.heads (.slice (some ⟨gr, 0, none⟩) L.length c) (List.set (hdP X1 ++ (hdP F ++ hdP (R.drop d))) (a0 + d) (.slice A7 n7 c7, false))) (by kernel_rfl) (by simp) (by decide) hl hs (by show Ob.heads _ (List.set _ _ (lineV (vs 7), false)) = _; rw [q7]; rfl) (hS.storeHead (sg h1)) trivial) trivial
        exact SSteps.nil
      · intro vs w' hS hv
        have q0 := (show vs 0 = (.slice (some ⟨gr, top * 2 + (many - k) * 2, none⟩) k (c - top - (many - k)) : Value) from hv 0 (by decide))
        have q1 := (show vs 1 = (.int .i64 ↑d : Value) from hv 1 (by decide))
        have q2 := (show vs 2 = (.pointer (some ⟨p, 0, none⟩) : Value) from hv 2 (by decide))
        have q3 := (show vs 3 = (.pointer (some ⟨p, 0, none⟩) : Value) from hv 3 (by decide))
        have q4 := (show vs 4 = (.pointer (some ⟨p, 0, none⟩) : Value) from hv 4 (by decide))
        have q5 := (show vs 5 = (.int .i64 ↑cols : Value) from hv 5 (by decide))
        have q6 := (show vs 6 = (.agg (pv q) : Value) from hv 6 (by decide))
        have q8 := (show vs 8 = (.pointer (some ⟨gr, (a0 + d) * 2, none⟩) : Value) from hv 8 (by decide))
        obtain ⟨A7, n7, c7, q7⟩ := (show ∃ A m c, vs 7 = .agg #[.slice A m c, .bool false] from hv 7 (by decide))
        rw [q7] at hS
        have S2 := Lib.hid hS
        simp only [putL, Act.put, Nat.zero_add, Nat.reduceAdd, List.setIfInBounds_toArray, List.set_cons_succ, List.set_cons_zero, q0, q1, q2, q3, q4, q5, q6, q8]
        clear hS hv q0 q1 q2 q3 q4 q5 q6 q8
        simp only [q7]
        have S9 := S2.out
        rw [show lineV (.agg #[.slice A7 n7 c7, .bool false]) = .slice A7 n7 c7 from rfl, hdP_fill (.slice A7 n7 c7) (List.replicate cols (blank q)) false HX1.out HF.out.1 hiR] at S9
        have S10 := Lib.hid (show Objs w0 w' (.heads (.slice (some ⟨gr, 0, none⟩) L.length c) (hdP X1 ++ (hdP (F ++ [(.slice A7 n7 c7, (List.replicate cols (blank q)), false)]) ++ hdP (R.drop (d + 1)))) :: .box b7 31 (pv q) :: .box p 37 #[.int .i64 ↑cols, .slice (some ⟨gr, 0, none⟩) L.length c] :: .heads (.slice Ag k cg) (hdP G) :: .pile (piP T ++ piP (F ++ [(.slice A7 n7 c7, (List.replicate cols (blank q)), false)])) :: .box b5 23 #[.int .i64 ↑top, .int .i64 ↑bot] :: os) from by have := Objs.pileIn S9; rw [List.append_assoc] at this; rw [piP_append]; exact this)
        clear S9 S2
        go_wp2_with fail
        go_roundw
        case rel => exact ⟨d + 1, F ++ [(.slice A7 n7 c7, (List.replicate cols (blank q)), false)], by omega, by go_num, ⟨by simp [HF.out.1], by rw [lnP_append, HF.out.2]; unfold rollFresh; rw [List.replicate_succ']; rfl⟩, S10.out⟩
        case measure => simp [intOf]; omega
  · have hnl : ¬ n < (many : Int) := by omega
    subst h2
    have HPB2 := Lib.hid (HPB.out rfl)
    clear HPB
    clear ha0
    by_cases hcap : c - top = k
    · go_wp2_with fail
      refine (clone_front S5.out.swap HONE.out (a := top) (m := k) (by rw [HTl.out]; omega) (by omega) (by rw [HTl.out]; omega)).mono ?_
      rintro e w5 ⟨Ag, cg, rfl, hS⟩
      obtain ⟨w6, hr6, hS6⟩ := run_copyH hS (k := 1) rfl HONE.out top top 0 (some ⟨gr, top * 2, none⟩) (some ⟨gr, top * 2, none⟩) k (k) 0 (0) (Nat.zero_min _) (by rw [HTl.out]; omega) (by rw [HTl.out]; omega) (fun h => absurd h (by omega)) 3
      have HR6 := Lib.hid hr6
      rw [hdP_drop T top, hdP_take, HG.out, ← hdP_drop T top, HPB2.out] at hS6
      have S7 := Lib.hid (ord7 (show Objs w0 w6 (.heads (.slice Ag k cg) (hdP G) :: .heads (.slice (some ⟨gr, 0, none⟩) L.length c) (hdP X1 ++ hdP R) :: .pile (piP T) :: .box b7 31 (pv q) :: .box b5 23 #[.int .i64 top, .int .i64 bot] :: .box p 37 #[.int .i64 cols, .slice (some ⟨gr, 0, none⟩) L.length c] :: os) from hS6))
      have HAO := HA0.out
      clear hS hr6 hS6 S5
      go_wp2_with (refine wpList_copyK rfl _ _ 35 35 rfl rfl rfl HR6.out ?_)
      go_loopw [14, 127] (fun _ vi wr => ∃ (d : Nat) (F : List Tr), d ≤ k ∧ vi = .int .i64 d ∧ (F.length = d ∧ lnP F = rollFresh d cols q) ∧ Objs w0 wr (.heads (.slice (some ⟨gr, 0, none⟩) L.length c) (hdP X1 ++ (hdP F ++ hdP (R.drop d))) :: .box b7 31 (pv q) :: .box p 37 #[.int .i64 ↑cols, .slice (some ⟨gr, 0, none⟩) L.length c] :: .heads (.slice Ag k cg) (hdP G) :: .pile (piP T ++ piP F) :: .box b5 23 #[.int .i64 ↑top, .int .i64 ↑bot] :: os)) (fun _ vi _ => k - (intOf vi).toNat)
      case atStart => exact ⟨0, [], by omega, rfl, ⟨rfl, rfl⟩, by simpa [hdP, piP] using S7.out⟩
      case round =>
        obtain ⟨d, F, hik, rfl, hFF, hS⟩ := hrel
        have HF := Lib.hid hFF
        have S8 := Lib.hid hS
        clear hFF hS S7
        by_cases hlt : d < k
        case neg =>
          have hie : d = k := by omega
          have hX := S8.out
          have hFk := HF.out.2
          rw [hie] at hX hFk
          have hX2 := hX.dealIn HPERM.out
          have HLF := Lib.hid (HLEFT.out F hFk)
          obtain ⟨L1, hL1⟩ : ∃ L1, L1 = lnP X1 ++ (lnP F ++ lnP (R.drop k)) := ⟨_, rfl⟩
          rw [← hL1] at hX2 HLF
          have hL1l : L1.length = L.length := by rw [hL1]; simp only [List.length_append, lnP_length, List.length_drop]; have := HX1.out; have := HF.out.1; have := HRL.out; omega
          have SX := Lib.hid hX2
          obtain ⟨hx5, hf5, hz5⟩ := (hX2.box (k := 4) rfl).facts
          clear hie hX hX2 hFk hL1 S8
          by_cases ht0 : top = 0
          · have HT0 := Lib.hid (show topHard top L1 = L1 by unfold topHard; rw [if_neg (by omega)])
            have htg : ¬ (0 : Int) < (top : Int) := by omega
            have SF := Lib.hid (fin_roll SX.out)
            clear ht0
            go_wp2_with fail
            go_ret2
            exact ⟨Ag, k, cg, rfl, by rw [← HGONE.out, ← HLF.out, HT0.out]; exact SF.out⟩
          · have htg : (0 : Int) < (top : Int) := by omega
            obtain ⟨l9, hlt1⟩ := get_of (show top - 1 < L1.length by omega)
            have HT0 := Lib.hid (show L1.set (top - 1) (l9.1, false) = topHard top L1 by unfold topHard; rw [if_pos (by omega), softMod_some hlt1])
            have HWT := Lib.hid (show IntKind.i64.wrap ((top : Int) - 1) = (top : Int) - 1 from IntWalk.i64_in _ (by omega))
            have htz : (0 : Int) ≤ (top : Int) - 1 := by omega
            have htz2 : (top : Int) - 1 < (L.length : Int) := by omega
            have htz3 : ¬ (top : Int) < 1 := by omega
            have htn : ((top : Int) - 1).toNat = top - 1 := by omega
            have SY := Lib.hid (ord_roll SX.out)
            go_upto_region 31 with (fail)
            refine wp_region_stage (w0 := w0) (os := (.lines (.slice Ag k cg) (lnP G) :: .box b7 31 (pv q) :: os)) (by kernel_rfl) (by kernel_rfl) (by kernel_rfl) [(0, 9, [], fun vs => .lines (.slice (some ⟨gr, 0, none⟩) L.length c) (L1.set (top - 1) (l9.1, false)))] [[], [], [], [1], [], [2], [], [], [], [0]] [.lines (.slice (some ⟨gr, 0, none⟩) L.length c) L1, .box p 37 #[.int .i64 ↑cols, .slice (some ⟨gr, 0, none⟩) L.length c], .box b5 23 #[.int .i64 ↑top, .int .i64 ↑bot]] (fun i u => match i with | 0 => u = (.pointer (some ⟨p, 0, none⟩) : Value) | 1 => u = (.pointer (some ⟨p, 0, none⟩) : Value) | 2 => u = (.pointer (some ⟨p, 1, none⟩) : Value) | 3 => u = (.slice (some ⟨gr, 0, none⟩) L.length c : Value) | 4 => u = (.pointer (some ⟨b5, 0, none⟩) : Value) | 5 => u = (.int .i64 ↑top : Value) | 6 => u = (.int .i64 (↑top - 1) : Value) | 7 => u = (.pointer (some ⟨gr, (top - 1) * 2, none⟩) : Value) | 8 => u = (.pointer (some ⟨gr, (top - 1) * 2 + 1, none⟩) : Value) | 9 => True | _ => True) (fun vs => [.lines (.slice (some ⟨gr, 0, none⟩) L.length c) (L1.set (top - 1) (l9.1, false)), .box p 37 #[.int .i64 ↑cols, .slice (some ⟨gr, 0, none⟩) L.length c], .box b5 23 #[.int .i64 ↑top, .int .i64 ↑bot]]) (by kernel_rfl) (fun vs => by rfl) SY.out ?_ ?_
            · refine SSteps.cons (fun a w' vs σ hS hl hs hk => ?_) ?_
              · have e0 : a.tmps.getD 0 undef = (.pointer (some ⟨p, 0, none⟩) : Value) := (sk_old hk 0 (by kernel_rfl)).trans rfl
                have f0 := gd e0
                exact ro_pure (v := .pointer (some ⟨p, 0, none⟩)) (wanted_none rfl) (by simp [execOp, Act.eval, e0, f0, go_sem]) (sp_same (by kernel_rfl) hl hs hS (show (.pointer (some ⟨p, 0, none⟩) : Value) = _ from rfl)) trivial
              refine SSteps.cons (fun a w' vs σ hS hl hs hk => ?_) ?_
              · have e143 : a.tmps.getD 143 undef = (.pointer (some ⟨p, 0, none⟩) : Value) := (sk_val hk 0 (by kernel_rfl) rfl rfl).trans ((hk.1 0 (by kernel_rfl)).1)
                have f143 := gd e143
                exact ro_pure (v := .pointer (some ⟨p, 0, none⟩)) (wanted_none rfl) (by simp [execOp, Act.eval, e143, f143, go_sem]) (sp_same (by kernel_rfl) hl hs hS (show (.pointer (some ⟨p, 0, none⟩) : Value) = _ from rfl)) trivial
              refine SSteps.cons (fun a w' vs σ hS hl hs hk => ?_) ?_
              · have e144 : a.tmps.getD 144 undef = (.pointer (some ⟨p, 0, none⟩) : Value) := (sk_val hk 1 (by kernel_rfl) rfl rfl).trans ((hk.1 1 (by kernel_rfl)).1)
                have f144 := gd e144
                exact ro_pure (v := .pointer (some ⟨p, 1, none⟩)) (wanted_none rfl) (by simp [execOp, Act.eval, e144, f144, go_sem]) (sp_same (by kernel_rfl) hl hs hS (show (.pointer (some ⟨p, 1, none⟩) : Value) = _ from rfl)) trivial
              refine SSteps.cons (fun a w' vs σ hS hl hs hk => ?_) ?_
              · have e145 : a.tmps.getD 145 undef = (.pointer (some ⟨p, 1, none⟩) : Value) := (sk_val hk 2 (by kernel_rfl) rfl rfl).trans ((hk.1 2 (by kernel_rfl)).1)
                have f145 := gd e145
                have hx := (hS.box (sg (hs 1 (by decide)))).cell
                exact ro_pure (v := .slice (some ⟨gr, 0, none⟩) L.length c) (wanted_none rfl) (by simp [execOp, Act.eval, e145, f145, go_sem, hx]) (sp_same (by kernel_rfl) hl hs hS (show (.slice (some ⟨gr, 0, none⟩) L.length c : Value) = _ from rfl)) trivial
              refine SSteps.cons (fun a w' vs σ hS hl hs hk => ?_) ?_
              · have e5 : a.tmps.getD 5 undef = (.pointer (some ⟨b5, 0, none⟩) : Value) := (sk_old hk 5 (by kernel_rfl)).trans rfl
                have f5 := gd e5
                exact ro_pure (v := .pointer (some ⟨b5, 0, none⟩)) (wanted_none rfl) (by simp [execOp, Act.eval, e5, f5, go_sem]) (sp_same (by kernel_rfl) hl hs hS (show (.pointer (some ⟨b5, 0, none⟩) : Value) = _ from rfl)) trivial
              refine SSteps.cons (fun a w' vs σ hS hl hs hk => ?_) ?_
              · have e147 : a.tmps.getD 147 undef = (.pointer (some ⟨b5, 0, none⟩) : Value) := (sk_val hk 4 (by kernel_rfl) rfl rfl).trans ((hk.1 4 (by kernel_rfl)).1)
                have f147 := gd e147
                have hx := (hS.box (sg (hs 2 (by decide)))).cell
                exact ro_pure (v := .int .i64 ↑top) (wanted_none rfl) (by simp [execOp, Act.eval, e147, f147, go_sem, hx]) (sp_same (by kernel_rfl) hl hs hS (show (.int .i64 ↑top : Value) = _ from rfl)) trivial
              refine SSteps.cons (fun a w' vs σ hS hl hs hk => ?_) ?_
              · have e148 : a.tmps.getD 148 undef = (.int .i64 ↑top : Value) := (sk_val hk 5 (by kernel_rfl) rfl rfl).trans ((hk.1 5 (by kernel_rfl)).1)
                have f148 := gd e148
                exact ro_pure (v := .int .i64 (↑top - 1)) (wanted_none rfl) (by simp [execOp, Act.eval, e148, f148, go_sem, HWT.out]) (sp_same (by kernel_rfl) hl hs hS (show (.int .i64 (↑top - 1) : Value) = _ from rfl)) trivial
              refine SSteps.cons (fun a w' vs σ hS hl hs hk => ?_) ?_
              · have e146 : a.tmps.getD 146 undef = (.slice (some ⟨gr, 0, none⟩) L.length c : Value) := (sk_val hk 3 (by kernel_rfl) rfl rfl).trans ((hk.1 3 (by kernel_rfl)).1)
                have f146 := gd e146
                have e149 : a.tmps.getD 149 undef = (.int .i64 (↑top - 1) : Value) := (sk_val hk 6 (by kernel_rfl) rfl rfl).trans ((hk.1 6 (by kernel_rfl)).1)
                have f149 := gd e149
                exact ro_pure (v := .pointer (some ⟨gr, (top - 1) * 2, none⟩)) (wanted_none rfl) (by simp [execOp, Act.eval, e146, f146, e149, f149, go_sem, htz, htz2, htn, htz3]) (sp_same (by kernel_rfl) hl hs hS (show (.pointer (some ⟨gr, (top - 1) * 2, none⟩) : Value) = _ from rfl)) trivial
              refine SSteps.cons (fun a w' vs σ hS hl hs hk => ?_) ?_
              · have e150 : a.tmps.getD 150 undef = (.pointer (some ⟨gr, (top - 1) * 2, none⟩) : Value) := (sk_val hk 7 (by kernel_rfl) rfl rfl).trans ((hk.1 7 (by kernel_rfl)).1)
                have f150 := gd e150
                exact ro_pure (v := .pointer (some ⟨gr, (top - 1) * 2 + 1, none⟩)) (wanted_none rfl) (by simp [execOp, Act.eval, e150, f150, go_sem]) (sp_same (by kernel_rfl) hl hs hS (show (.pointer (some ⟨gr, (top - 1) * 2 + 1, none⟩) : Value) = _ from rfl)) trivial
              refine SSteps.cons (fun a w' vs σ hS hl hs hk => ?_) ?_
              · have e151 : a.tmps.getD 151 undef = (.pointer (some ⟨gr, (top - 1) * 2 + 1, none⟩) : Value) := (sk_val hk 8 (by kernel_rfl) rfl rfl).trans ((hk.1 8 (by kernel_rfl)).1)
                have f151 := gd e151
                have h1 : σ[0]? = some (.lines (.slice (some ⟨gr, 0, none⟩) L.length c) L1) := hs 0 (by decide)
                obtain ⟨F9, bs9, hF9, -⟩ := hS.get (sg h1)
                obtain ⟨A9, c9, e9, -, -, -, hg9⟩ := hF9.form
                simp only [Value.slice.injEq] at e9
                obtain ⟨rfl, -, rfl⟩ := e9
                obtain ⟨g9, e9', hz, -, hso, hf⟩ := hg9 (by omega)
                cases e9'
                have hx := hso _ _ hlt1
                exact rstep_store (w2 := w'.setCell ⟨gr, (top - 1) * 2 + 1, none⟩ (.bool false)) (wanted_none rfl) rfl (by simp [execOp, Act.eval, e151, f151, hx, hf, hz, go_sem]) (sp_set 0 (.lines (.slice (some ⟨gr, 0, none⟩) L.length c) (L1.set (top - 1) (l9.1, false))) (by kernel_rfl) (by simp) (by decide) hl hs (by rfl) (hS.storeSoft (sg h1) hlt1) trivial) trivial
              exact SSteps.nil
            · intro vs w' hS hv
              have q0 := (show vs 0 = (.pointer (some ⟨p, 0, none⟩) : Value) from hv 0 (by decide))
              have q1 := (show vs 1 = (.pointer (some ⟨p, 0, none⟩) : Value) from hv 1 (by decide))
              have q2 := (show vs 2 = (.pointer (some ⟨p, 1, none⟩) : Value) from hv 2 (by decide))
              have q3 := (show vs 3 = (.slice (some ⟨gr, 0, none⟩) L.length c : Value) from hv 3 (by decide))
              have q4 := (show vs 4 = (.pointer (some ⟨b5, 0, none⟩) : Value) from hv 4 (by decide))
              have q5 := (show vs 5 = (.int .i64 ↑top : Value) from hv 5 (by decide))
              have q6 := (show vs 6 = (.int .i64 (↑top - 1) : Value) from hv 6 (by decide))
              have q7 := (show vs 7 = (.pointer (some ⟨gr, (top - 1) * 2, none⟩) : Value) from hv 7 (by decide))
              have q8 := (show vs 8 = (.pointer (some ⟨gr, (top - 1) * 2 + 1, none⟩) : Value) from hv 8 (by decide))
              have S2 := Lib.hid hS
              simp only [putL, Act.put, Nat.zero_add, Nat.reduceAdd, List.setIfInBounds_toArray, List.set_cons_succ, List.set_cons_zero, q0, q1, q2, q3, q4, q5, q6, q7, q8]
              clear hS hv q0 q1 q2 q3 q4 q5 q6 q7 q8
              have S9 := S2.out
              rw [HT0.out] at S9
              have SF := Lib.hid (fin_roll2 S9)
              clear S9 S2
              go_wp2_with fail
              go_ret2
              exact ⟨Ag, k, cg, rfl, by rw [← HGONE.out, ← HLF.out]; exact SF.out⟩
        have hiR : d < R.length := by omega
        have hiz : (0 : Int) ≤ (d : Int) := by omega
        have hiz2 : (d : Int) < (k : Int) := by omega
        have hoff : top * 2 + d * 2 = (a0 + d) * 2 := by omega
        have HHL := Lib.hid (show (hdP X1 ++ (hdP F ++ hdP (R.drop d))).length = a0 + (d + (R.length - d)) by simp only [List.length_append, hdP_length, List.length_drop, HX1.out, HF.out.1])
        have SZ := Lib.hid S8.out.pad
        clear S8
        go_upto_region 28 with (fail)
        refine wp_region_stage (w0 := w0) (os := (.heads (.slice Ag k cg) (hdP G) :: .pile (piP T ++ piP F) :: .box b5 23 #[.int .i64 ↑top, .int .i64 ↑bot] :: os)) (by kernel_rfl) (by kernel_rfl) (by kernel_rfl) [(0, 7, [7], fun vs => .cells (lineV (vs 7)) (List.replicate cols (blank q))), (1, 9, [7], fun vs => .heads (.slice (some ⟨gr, 0, none⟩) L.length c) (List.set (hdP X1 ++ (hdP F ++ hdP (R.drop d))) (a0 + d) (lineV (vs 7), false)))] [[], [], [], [], [], [3], [2], [0], [], [1]] [.none, .heads (.slice (some ⟨gr, 0, none⟩) L.length c) (hdP X1 ++ (hdP F ++ hdP (R.drop d))), .box b7 31 (pv q), .box p 37 #[.int .i64 ↑cols, .slice (some ⟨gr, 0, none⟩) L.length c]] (fun i u => match i with | 0 => u = (.slice (some ⟨gr, top * 2, none⟩) k (k) : Value) | 1 => u = (.int .i64 ↑d : Value) | 2 => u = (.pointer (some ⟨p, 0, none⟩) : Value) | 3 => u = (.pointer (some ⟨p, 0, none⟩) : Value) | 4 => u = (.pointer (some ⟨p, 0, none⟩) : Value) | 5 => u = (.int .i64 ↑cols : Value) | 6 => u = (.agg (pv q) : Value) | 7 => ∃ A m c, u = .agg #[.slice A m c, .bool false] | 8 => u = (.pointer (some ⟨gr, (a0 + d) * 2, none⟩) : Value) | 9 => True | _ => True) (fun vs => [.cells (lineV (vs 7)) (List.replicate cols (blank q)), .heads (.slice (some ⟨gr, 0, none⟩) L.length c) (List.set (hdP X1 ++ (hdP F ++ hdP (R.drop d))) (a0 + d) (lineV (vs 7), false)), .box b7 31 (pv q), .box p 37 #[.int .i64 ↑cols, .slice (some ⟨gr, 0, none⟩) L.length c]]) (by kernel_rfl) (fun vs => by rfl) SZ.out ?_ ?_
        · refine SSteps.cons (fun a w' vs σ hS hl hs hk => ?_) ?_
          · have e13 : a.tmps.getD 13 undef = (.slice (some ⟨gr, top * 2, none⟩) k (k) : Value) := (sk_old hk 13 (by kernel_rfl)).trans rfl
            have f13 := gd e13
            exact ro_pure (v := .slice (some ⟨gr, top * 2, none⟩) k (k)) (wanted_none rfl) (by simp [execOp, Act.eval, e13, f13, go_sem]) (sp_same (by kernel_rfl) hl hs hS (show (.slice (some ⟨gr, top * 2, none⟩) k (k) : Value) = _ from rfl)) trivial
          refine SSteps.cons (fun a w' vs σ hS hl hs hk => ?_) ?_
          · have e14 : a.tmps.getD 14 undef = (.int .i64 ↑d : Value) := (sk_old hk 14 (by kernel_rfl)).trans rfl
            have f14 := gd e14
            exact ro_pure (v := .int .i64 ↑d) (wanted_none rfl) (by simp [execOp, Act.eval, e14, f14, go_sem]) (sp_same (by kernel_rfl) hl hs hS (show (.int .i64 ↑d : Value) = _ from rfl)) trivial
          refine SSteps.cons (fun a w' vs σ hS hl hs hk => ?_) ?_
          · have e0 : a.tmps.getD 0 undef = (.pointer (some ⟨p, 0, none⟩) : Value) := (sk_old hk 0 (by kernel_rfl)).trans rfl
            have f0 := gd e0
            exact ro_pure (v := .pointer (some ⟨p, 0, none⟩)) (wanted_none rfl) (by simp [execOp, Act.eval, e0, f0, go_sem]) (sp_same (by kernel_rfl) hl hs hS (show (.pointer (some ⟨p, 0, none⟩) : Value) = _ from rfl)) trivial
          refine SSteps.cons (fun a w' vs σ hS hl hs hk => ?_) ?_
          · have e132 : a.tmps.getD 132 undef = (.pointer (some ⟨p, 0, none⟩) : Value) := (sk_val hk 2 (by kernel_rfl) rfl rfl).trans ((hk.1 2 (by kernel_rfl)).1)
            have f132 := gd e132
            exact ro_pure (v := .pointer (some ⟨p, 0, none⟩)) (wanted_none rfl) (by simp [execOp, Act.eval, e132, f132, go_sem]) (sp_same (by kernel_rfl) hl hs hS (show (.pointer (some ⟨p, 0, none⟩) : Value) = _ from rfl)) trivial
          refine SSteps.cons (fun a w' vs σ hS hl hs hk => ?_) ?_
          · have e133 : a.tmps.getD 133 undef = (.pointer (some ⟨p, 0, none⟩) : Value) := (sk_val hk 3 (by kernel_rfl) rfl rfl).trans ((hk.1 3 (by kernel_rfl)).1)
            have f133 := gd e133
            exact ro_pure (v := .pointer (some ⟨p, 0, none⟩)) (wanted_none rfl) (by simp [execOp, Act.eval, e133, f133, go_sem]) (sp_same (by kernel_rfl) hl hs hS (show (.pointer (some ⟨p, 0, none⟩) : Value) = _ from rfl)) trivial
          refine SSteps.cons (fun a w' vs σ hS hl hs hk => ?_) ?_
          · have e134 : a.tmps.getD 134 undef = (.pointer (some ⟨p, 0, none⟩) : Value) := (sk_val hk 4 (by kernel_rfl) rfl rfl).trans ((hk.1 4 (by kernel_rfl)).1)
            have f134 := gd e134
            have hx := (hS.box (sg (hs 3 (by decide)))).cell
            exact ro_pure (v := .int .i64 ↑cols) (wanted_none rfl) (by simp [execOp, Act.eval, e134, f134, go_sem, hx]) (sp_same (by kernel_rfl) hl hs hS (show (.int .i64 ↑cols : Value) = _ from rfl)) trivial
          refine SSteps.cons (fun a w' vs σ hS hl hs hk => ?_) ?_
          · have e7 : a.tmps.getD 7 undef = (.pointer (some ⟨b7, 0, none⟩) : Value) := (sk_old hk 7 (by kernel_rfl)).trans rfl
            have f7 := gd e7
            have hx := (hS.box (sg (hs 2 (by decide)))).penAt
            exact ro_pure (v := .agg (pv q)) (wanted_none rfl) (by simp [execOp, Act.eval, e7, f7, go_sem, hx]) (sp_same (by kernel_rfl) hl hs hS (show (.agg (pv q) : Value) = _ from rfl)) trivial
          refine SSteps.cons (fun a w' vs σ hS hl hs hk => ?_) ?_
          · have e135 : a.tmps.getD 135 undef = (.int .i64 ↑cols : Value) := (sk_val hk 5 (by kernel_rfl) rfl rfl).trans ((hk.1 5 (by kernel_rfl)).1)
            have f135 := gd e135
            have e136 : a.tmps.getD 136 undef = (.agg (pv q) : Value) := (sk_val hk 6 (by kernel_rfl) rfl rfl).trans ((hk.1 6 (by kernel_rfl)).1)
            have f136 := gd e136
            have h0 : σ[0]? = some .none := hs 0 (by decide)
            exact ro_call (f := 67) (wanted_none rfl) rfl (by simp only [List.map_toArray, List.map_cons, List.map_nil, Act.eval, e135, e136] <;> rfl) (fun _ _ => by kernel_rfl) ((gridblanks_any cols hcm q _ _ _ hS).mono fun e w2 ⟨x, h1, h2⟩ => ⟨_, h1, sp_set 0 (.cells x (List.replicate cols (blank q))) (by kernel_rfl) (by simp) (by decide) hl hs (by rfl) (h2.place (sg h0)) (by obtain ⟨A', c', e, -⟩ := h2.cellsRd (k := 0) rfl; exact ⟨A', _, c', by rw [e]⟩), trivial⟩)
          refine SSteps.cons (fun a w' vs σ hS hl hs hk => ?_) ?_
          · have e130 : a.tmps.getD 130 undef = (.slice (some ⟨gr, top * 2, none⟩) k (k) : Value) := (sk_val hk 0 (by kernel_rfl) rfl rfl).trans ((hk.1 0 (by kernel_rfl)).1)
            have f130 := gd e130
            have e131 : a.tmps.getD 131 undef = (.int .i64 ↑d : Value) := (sk_val hk 1 (by kernel_rfl) rfl rfl).trans ((hk.1 1 (by kernel_rfl)).1)
            have f131 := gd e131
            exact ro_pure (v := .pointer (some ⟨gr, (a0 + d) * 2, none⟩)) (wanted_none rfl) (by simp [execOp, Act.eval, e130, f130, e131, f131, go_sem, hiz, hiz2, hoff]) (sp_same (by kernel_rfl) hl hs hS (show (.pointer (some ⟨gr, (a0 + d) * 2, none⟩) : Value) = _ from rfl)) trivial
          refine SSteps.cons (fun a w' vs σ hS hl hs hk => ?_) ?_
          · have e138 : a.tmps.getD 138 undef = (.pointer (some ⟨gr, (a0 + d) * 2, none⟩) : Value) := (sk_val hk 8 (by kernel_rfl) rfl rfl).trans ((hk.1 8 (by kernel_rfl)).1)
            have f138 := gd e138
            have e137 : a.tmps.getD 137 undef = vs 7 := sk_val hk 7 (by kernel_rfl) rfl rfl
            have p137 : (fun u : Value => ∃ A m c, u = .agg #[.slice A m c, .bool false]) (vs 7) := (hk.1 7 (by kernel_rfl)).1
            have f137 := gd e137
            obtain ⟨A7, n7, c7, q7⟩ := p137
            have h1 : σ[1]? = some (.heads (.slice (some ⟨gr, 0, none⟩) L.length c) (hdP X1 ++ (hdP F ++ hdP (R.drop d)))) := hs 1 (by decide)
            obtain ⟨A8, c8, e8, -, -, -, hg8⟩ := hS.headsForm (sg h1)
            simp only [Value.slice.injEq] at e8
            obtain ⟨rfl, -, rfl⟩ := e8
            have hHl := HHL.out
            obtain ⟨g8, e9, hz, hcs, hf⟩ := hg8 (by omega)
            cases e9
            obtain ⟨x8, hx8⟩ := get_of (show a0 + d < (hdP X1 ++ (hdP F ++ hdP (R.drop d))).length by omega)
            obtain ⟨hx, hx'⟩ := hcs (a0 + d) x8 hx8
            exact rstep_store (w2 := (w'.setCell ⟨gr, (a0 + d) * 2, none⟩ (.slice A7 n7 c7)).setCell ⟨gr, (a0 + d) * 2 + 1, none⟩ (.bool false)) (wanted_none rfl) rfl (by simp [execOp, Act.eval, e138, f138, e137, f137, q7, hx, hx', hf, hz, go_sem]) (sp_set 1 (.heads (.slice (some ⟨gr, 0, none⟩) L.length c) (List.set (hdP X1 ++ (hdP F ++ hdP (R.drop d))) (a0 + d) (.slice A7 n7 c7, false))) (by kernel_rfl) (by simp) (by decide) hl hs (by show Ob.heads _ (List.set _ _ (lineV (vs 7), false)) = _; rw [q7]; rfl) (hS.storeHead (sg h1)) trivial) trivial
          exact SSteps.nil
        · intro vs w' hS hv
          have q0 := (show vs 0 = (.slice (some ⟨gr, top * 2, none⟩) k (k) : Value) from hv 0 (by decide))
          have q1 := (show vs 1 = (.int .i64 ↑d : Value) from hv 1 (by decide))
          have q2 := (show vs 2 = (.pointer (some ⟨p, 0, none⟩) : Value) from hv 2 (by decide))
          have q3 := (show vs 3 = (.pointer (some ⟨p, 0, none⟩) : Value) from hv 3 (by decide))
          have q4 := (show vs 4 = (.pointer (some ⟨p, 0, none⟩) : Value) from hv 4 (by decide))
          have q5 := (show vs 5 = (.int .i64 ↑cols : Value) from hv 5 (by decide))
          have q6 := (show vs 6 = (.agg (pv q) : Value) from hv 6 (by decide))
          have q8 := (show vs 8 = (.pointer (some ⟨gr, (a0 + d) * 2, none⟩) : Value) from hv 8 (by decide))
          obtain ⟨A7, n7, c7, q7⟩ := (show ∃ A m c, vs 7 = .agg #[.slice A m c, .bool false] from hv 7 (by decide))
          rw [q7] at hS
          have S2 := Lib.hid hS
          simp only [putL, Act.put, Nat.zero_add, Nat.reduceAdd, List.setIfInBounds_toArray, List.set_cons_succ, List.set_cons_zero, q0, q1, q2, q3, q4, q5, q6, q8]
          clear hS hv q0 q1 q2 q3 q4 q5 q6 q8
          simp only [q7]
          have S9 := S2.out
          rw [show lineV (.agg #[.slice A7 n7 c7, .bool false]) = .slice A7 n7 c7 from rfl, hdP_fill (.slice A7 n7 c7) (List.replicate cols (blank q)) false HX1.out HF.out.1 hiR] at S9
          have S10 := Lib.hid (show Objs w0 w' (.heads (.slice (some ⟨gr, 0, none⟩) L.length c) (hdP X1 ++ (hdP (F ++ [(.slice A7 n7 c7, (List.replicate cols (blank q)), false)]) ++ hdP (R.drop (d + 1)))) :: .box b7 31 (pv q) :: .box p 37 #[.int .i64 ↑cols, .slice (some ⟨gr, 0, none⟩) L.length c] :: .heads (.slice Ag k cg) (hdP G) :: .pile (piP T ++ piP (F ++ [(.slice A7 n7 c7, (List.replicate cols (blank q)), false)])) :: .box b5 23 #[.int .i64 ↑top, .int .i64 ↑bot] :: os) from by have := Objs.pileIn S9; rw [List.append_assoc] at this; rw [piP_append]; exact this)
          clear S9 S2
          go_wp2_with fail
          go_roundw
          case rel => exact ⟨d + 1, F ++ [(.slice A7 n7 c7, (List.replicate cols (blank q)), false)], by omega, by go_num, ⟨by simp [HF.out.1], by rw [lnP_append, HF.out.2]; unfold rollFresh; rw [List.replicate_succ']; rfl⟩, S10.out⟩
          case measure => simp [intOf]; omega
    · go_wp2_with fail
      refine (clone_front S5.out.swap HONE.out (a := top) (m := k) (by rw [HTl.out]; omega) (by omega) (by rw [HTl.out]; omega)).mono ?_
      rintro e w5 ⟨Ag, cg, rfl, hS⟩
      obtain ⟨w6, hr6, hS6⟩ := run_copyH hS (k := 1) rfl HONE.out top top 0 (some ⟨gr, top * 2, none⟩) (some ⟨gr, top * 2 + k * 2, none⟩) k (c - top) 0 (c - top - k) (Nat.zero_min _) (by rw [HTl.out]; omega) (by rw [HTl.out]; omega) (fun h => absurd h (by omega)) 3
      have HR6 := Lib.hid hr6
      rw [hdP_drop T top, hdP_take, HG.out, ← hdP_drop T top, HPB2.out] at hS6
      have S7 := Lib.hid (ord7 (show Objs w0 w6 (.heads (.slice Ag k cg) (hdP G) :: .heads (.slice (some ⟨gr, 0, none⟩) L.length c) (hdP X1 ++ hdP R) :: .pile (piP T) :: .box b7 31 (pv q) :: .box b5 23 #[.int .i64 top, .int .i64 bot] :: .box p 37 #[.int .i64 cols, .slice (some ⟨gr, 0, none⟩) L.length c] :: os) from hS6))
      have HAO := HA0.out
      clear hS hr6 hS6 S5
      go_wp2_with (refine wpList_copyK rfl _ _ 35 35 rfl rfl rfl HR6.out ?_)
      go_loopw [14, 127] (fun _ vi wr => ∃ (d : Nat) (F : List Tr), d ≤ k ∧ vi = .int .i64 d ∧ (F.length = d ∧ lnP F = rollFresh d cols q) ∧ Objs w0 wr (.heads (.slice (some ⟨gr, 0, none⟩) L.length c) (hdP X1 ++ (hdP F ++ hdP (R.drop d))) :: .box b7 31 (pv q) :: .box p 37 #[.int .i64 ↑cols, .slice (some ⟨gr, 0, none⟩) L.length c] :: .heads (.slice Ag k cg) (hdP G) :: .pile (piP T ++ piP F) :: .box b5 23 #[.int .i64 ↑top, .int .i64 ↑bot] :: os)) (fun _ vi _ => k - (intOf vi).toNat)
      case atStart => exact ⟨0, [], by omega, rfl, ⟨rfl, rfl⟩, by simpa [hdP, piP] using S7.out⟩
      case round =>
        obtain ⟨d, F, hik, rfl, hFF, hS⟩ := hrel
        have HF := Lib.hid hFF
        have S8 := Lib.hid hS
        clear hFF hS S7
        by_cases hlt : d < k
        case neg =>
          have hie : d = k := by omega
          have hX := S8.out
          have hFk := HF.out.2
          rw [hie] at hX hFk
          have hX2 := hX.dealIn HPERM.out
          have HLF := Lib.hid (HLEFT.out F hFk)
          obtain ⟨L1, hL1⟩ : ∃ L1, L1 = lnP X1 ++ (lnP F ++ lnP (R.drop k)) := ⟨_, rfl⟩
          rw [← hL1] at hX2 HLF
          have hL1l : L1.length = L.length := by rw [hL1]; simp only [List.length_append, lnP_length, List.length_drop]; have := HX1.out; have := HF.out.1; have := HRL.out; omega
          have SX := Lib.hid hX2
          obtain ⟨hx5, hf5, hz5⟩ := (hX2.box (k := 4) rfl).facts
          clear hie hX hX2 hFk hL1 S8
          by_cases ht0 : top = 0
          · have HT0 := Lib.hid (show topHard top L1 = L1 by unfold topHard; rw [if_neg (by omega)])
            have htg : ¬ (0 : Int) < (top : Int) := by omega
            have SF := Lib.hid (fin_roll SX.out)
            clear ht0
            go_wp2_with fail
            go_ret2
            exact ⟨Ag, k, cg, rfl, by rw [← HGONE.out, ← HLF.out, HT0.out]; exact SF.out⟩
          · have htg : (0 : Int) < (top : Int) := by omega
            obtain ⟨l9, hlt1⟩ := get_of (show top - 1 < L1.length by omega)
            have HT0 := Lib.hid (show L1.set (top - 1) (l9.1, false) = topHard top L1 by unfold topHard; rw [if_pos (by omega), softMod_some hlt1])
            have HWT := Lib.hid (show IntKind.i64.wrap ((top : Int) - 1) = (top : Int) - 1 from IntWalk.i64_in _ (by omega))
            have htz : (0 : Int) ≤ (top : Int) - 1 := by omega
            have htz2 : (top : Int) - 1 < (L.length : Int) := by omega
            have htz3 : ¬ (top : Int) < 1 := by omega
            have htn : ((top : Int) - 1).toNat = top - 1 := by omega
            have SY := Lib.hid (ord_roll SX.out)
            go_upto_region 31 with (fail)
            refine wp_region_stage (w0 := w0) (os := (.lines (.slice Ag k cg) (lnP G) :: .box b7 31 (pv q) :: os)) (by kernel_rfl) (by kernel_rfl) (by kernel_rfl) [(0, 9, [], fun vs => .lines (.slice (some ⟨gr, 0, none⟩) L.length c) (L1.set (top - 1) (l9.1, false)))] [[], [], [], [1], [], [2], [], [], [], [0]] [.lines (.slice (some ⟨gr, 0, none⟩) L.length c) L1, .box p 37 #[.int .i64 ↑cols, .slice (some ⟨gr, 0, none⟩) L.length c], .box b5 23 #[.int .i64 ↑top, .int .i64 ↑bot]] (fun i u => match i with | 0 => u = (.pointer (some ⟨p, 0, none⟩) : Value) | 1 => u = (.pointer (some ⟨p, 0, none⟩) : Value) | 2 => u = (.pointer (some ⟨p, 1, none⟩) : Value) | 3 => u = (.slice (some ⟨gr, 0, none⟩) L.length c : Value) | 4 => u = (.pointer (some ⟨b5, 0, none⟩) : Value) | 5 => u = (.int .i64 ↑top : Value) | 6 => u = (.int .i64 (↑top - 1) : Value) | 7 => u = (.pointer (some ⟨gr, (top - 1) * 2, none⟩) : Value) | 8 => u = (.pointer (some ⟨gr, (top - 1) * 2 + 1, none⟩) : Value) | 9 => True | _ => True) (fun vs => [.lines (.slice (some ⟨gr, 0, none⟩) L.length c) (L1.set (top - 1) (l9.1, false)), .box p 37 #[.int .i64 ↑cols, .slice (some ⟨gr, 0, none⟩) L.length c], .box b5 23 #[.int .i64 ↑top, .int .i64 ↑bot]]) (by kernel_rfl) (fun vs => by rfl) SY.out ?_ ?_
            · refine SSteps.cons (fun a w' vs σ hS hl hs hk => ?_) ?_
              · have e0 : a.tmps.getD 0 undef = (.pointer (some ⟨p, 0, none⟩) : Value) := (sk_old hk 0 (by kernel_rfl)).trans rfl
                have f0 := gd e0
                exact ro_pure (v := .pointer (some ⟨p, 0, none⟩)) (wanted_none rfl) (by simp [execOp, Act.eval, e0, f0, go_sem]) (sp_same (by kernel_rfl) hl hs hS (show (.pointer (some ⟨p, 0, none⟩) : Value) = _ from rfl)) trivial
              refine SSteps.cons (fun a w' vs σ hS hl hs hk => ?_) ?_
              · have e143 : a.tmps.getD 143 undef = (.pointer (some ⟨p, 0, none⟩) : Value) := (sk_val hk 0 (by kernel_rfl) rfl rfl).trans ((hk.1 0 (by kernel_rfl)).1)
                have f143 := gd e143
                exact ro_pure (v := .pointer (some ⟨p, 0, none⟩)) (wanted_none rfl) (by simp [execOp, Act.eval, e143, f143, go_sem]) (sp_same (by kernel_rfl) hl hs hS (show (.pointer (some ⟨p, 0, none⟩) : Value) = _ from rfl)) trivial
              refine SSteps.cons (fun a w' vs σ hS hl hs hk => ?_) ?_
              · have e144 : a.tmps.getD 144 undef = (.pointer (some ⟨p, 0, none⟩) : Value) := (sk_val hk 1 (by kernel_rfl) rfl rfl).trans ((hk.1 1 (by kernel_rfl)).1)
                have f144 := gd e144
                exact ro_pure (v := .pointer (some ⟨p, 1, none⟩)) (wanted_none rfl) (by simp [execOp, Act.eval, e144, f144, go_sem]) (sp_same (by kernel_rfl) hl hs hS (show (.pointer (some ⟨p, 1, none⟩) : Value) = _ from rfl)) trivial
              refine SSteps.cons (fun a w' vs σ hS hl hs hk => ?_) ?_
              · have e145 : a.tmps.getD 145 undef = (.pointer (some ⟨p, 1, none⟩) : Value) := (sk_val hk 2 (by kernel_rfl) rfl rfl).trans ((hk.1 2 (by kernel_rfl)).1)
                have f145 := gd e145
                have hx := (hS.box (sg (hs 1 (by decide)))).cell
                exact ro_pure (v := .slice (some ⟨gr, 0, none⟩) L.length c) (wanted_none rfl) (by simp [execOp, Act.eval, e145, f145, go_sem, hx]) (sp_same (by kernel_rfl) hl hs hS (show (.slice (some ⟨gr, 0, none⟩) L.length c : Value) = _ from rfl)) trivial
              refine SSteps.cons (fun a w' vs σ hS hl hs hk => ?_) ?_
              · have e5 : a.tmps.getD 5 undef = (.pointer (some ⟨b5, 0, none⟩) : Value) := (sk_old hk 5 (by kernel_rfl)).trans rfl
                have f5 := gd e5
                exact ro_pure (v := .pointer (some ⟨b5, 0, none⟩)) (wanted_none rfl) (by simp [execOp, Act.eval, e5, f5, go_sem]) (sp_same (by kernel_rfl) hl hs hS (show (.pointer (some ⟨b5, 0, none⟩) : Value) = _ from rfl)) trivial
              refine SSteps.cons (fun a w' vs σ hS hl hs hk => ?_) ?_
              · have e147 : a.tmps.getD 147 undef = (.pointer (some ⟨b5, 0, none⟩) : Value) := (sk_val hk 4 (by kernel_rfl) rfl rfl).trans ((hk.1 4 (by kernel_rfl)).1)
                have f147 := gd e147
                have hx := (hS.box (sg (hs 2 (by decide)))).cell
                exact ro_pure (v := .int .i64 ↑top) (wanted_none rfl) (by simp [execOp, Act.eval, e147, f147, go_sem, hx]) (sp_same (by kernel_rfl) hl hs hS (show (.int .i64 ↑top : Value) = _ from rfl)) trivial
              refine SSteps.cons (fun a w' vs σ hS hl hs hk => ?_) ?_
              · have e148 : a.tmps.getD 148 undef = (.int .i64 ↑top : Value) := (sk_val hk 5 (by kernel_rfl) rfl rfl).trans ((hk.1 5 (by kernel_rfl)).1)
                have f148 := gd e148
                exact ro_pure (v := .int .i64 (↑top - 1)) (wanted_none rfl) (by simp [execOp, Act.eval, e148, f148, go_sem, HWT.out]) (sp_same (by kernel_rfl) hl hs hS (show (.int .i64 (↑top - 1) : Value) = _ from rfl)) trivial
              refine SSteps.cons (fun a w' vs σ hS hl hs hk => ?_) ?_
              · have e146 : a.tmps.getD 146 undef = (.slice (some ⟨gr, 0, none⟩) L.length c : Value) := (sk_val hk 3 (by kernel_rfl) rfl rfl).trans ((hk.1 3 (by kernel_rfl)).1)
                have f146 := gd e146
                have e149 : a.tmps.getD 149 undef = (.int .i64 (↑top - 1) : Value) := (sk_val hk 6 (by kernel_rfl) rfl rfl).trans ((hk.1 6 (by kernel_rfl)).1)
                have f149 := gd e149
                exact ro_pure (v := .pointer (some ⟨gr, (top - 1) * 2, none⟩)) (wanted_none rfl) (by simp [execOp, Act.eval, e146, f146, e149, f149, go_sem, htz, htz2, htn, htz3]) (sp_same (by kernel_rfl) hl hs hS (show (.pointer (some ⟨gr, (top - 1) * 2, none⟩) : Value) = _ from rfl)) trivial
              refine SSteps.cons (fun a w' vs σ hS hl hs hk => ?_) ?_
              · have e150 : a.tmps.getD 150 undef = (.pointer (some ⟨gr, (top - 1) * 2, none⟩) : Value) := (sk_val hk 7 (by kernel_rfl) rfl rfl).trans ((hk.1 7 (by kernel_rfl)).1)
                have f150 := gd e150
                exact ro_pure (v := .pointer (some ⟨gr, (top - 1) * 2 + 1, none⟩)) (wanted_none rfl) (by simp [execOp, Act.eval, e150, f150, go_sem]) (sp_same (by kernel_rfl) hl hs hS (show (.pointer (some ⟨gr, (top - 1) * 2 + 1, none⟩) : Value) = _ from rfl)) trivial
              refine SSteps.cons (fun a w' vs σ hS hl hs hk => ?_) ?_
              · have e151 : a.tmps.getD 151 undef = (.pointer (some ⟨gr, (top - 1) * 2 + 1, none⟩) : Value) := (sk_val hk 8 (by kernel_rfl) rfl rfl).trans ((hk.1 8 (by kernel_rfl)).1)
                have f151 := gd e151
                have h1 : σ[0]? = some (.lines (.slice (some ⟨gr, 0, none⟩) L.length c) L1) := hs 0 (by decide)
                obtain ⟨F9, bs9, hF9, -⟩ := hS.get (sg h1)
                obtain ⟨A9, c9, e9, -, -, -, hg9⟩ := hF9.form
                simp only [Value.slice.injEq] at e9
                obtain ⟨rfl, -, rfl⟩ := e9
                obtain ⟨g9, e9', hz, -, hso, hf⟩ := hg9 (by omega)
                cases e9'
                have hx := hso _ _ hlt1
                exact rstep_store (w2 := w'.setCell ⟨gr, (top - 1) * 2 + 1, none⟩ (.bool false)) (wanted_none rfl) rfl (by simp [execOp, Act.eval, e151, f151, hx, hf, hz, go_sem]) (sp_set 0 (.lines (.slice (some ⟨gr, 0, none⟩) L.length c) (L1.set (top - 1) (l9.1, false))) (by kernel_rfl) (by simp) (by decide) hl hs (by rfl) (hS.storeSoft (sg h1) hlt1) trivial) trivial
              exact SSteps.nil
            · intro vs w' hS hv
              have q0 := (show vs 0 = (.pointer (some ⟨p, 0, none⟩) : Value) from hv 0 (by decide))
              have q1 := (show vs 1 = (.pointer (some ⟨p, 0, none⟩) : Value) from hv 1 (by decide))
              have q2 := (show vs 2 = (.pointer (some ⟨p, 1, none⟩) : Value) from hv 2 (by decide))
              have q3 := (show vs 3 = (.slice (some ⟨gr, 0, none⟩) L.length c : Value) from hv 3 (by decide))
              have q4 := (show vs 4 = (.pointer (some ⟨b5, 0, none⟩) : Value) from hv 4 (by decide))
              have q5 := (show vs 5 = (.int .i64 ↑top : Value) from hv 5 (by decide))
              have q6 := (show vs 6 = (.int .i64 (↑top - 1) : Value) from hv 6 (by decide))
              have q7 := (show vs 7 = (.pointer (some ⟨gr, (top - 1) * 2, none⟩) : Value) from hv 7 (by decide))
              have q8 := (show vs 8 = (.pointer (some ⟨gr, (top - 1) * 2 + 1, none⟩) : Value) from hv 8 (by decide))
              have S2 := Lib.hid hS
              simp only [putL, Act.put, Nat.zero_add, Nat.reduceAdd, List.setIfInBounds_toArray, List.set_cons_succ, List.set_cons_zero, q0, q1, q2, q3, q4, q5, q6, q7, q8]
              clear hS hv q0 q1 q2 q3 q4 q5 q6 q7 q8
              have S9 := S2.out
              rw [HT0.out] at S9
              have SF := Lib.hid (fin_roll2 S9)
              clear S9 S2
              go_wp2_with fail
              go_ret2
              exact ⟨Ag, k, cg, rfl, by rw [← HGONE.out, ← HLF.out]; exact SF.out⟩
        have hiR : d < R.length := by omega
        have hiz : (0 : Int) ≤ (d : Int) := by omega
        have hiz2 : (d : Int) < (k : Int) := by omega
        have hoff : top * 2 + d * 2 = (a0 + d) * 2 := by omega
        have HHL := Lib.hid (show (hdP X1 ++ (hdP F ++ hdP (R.drop d))).length = a0 + (d + (R.length - d)) by simp only [List.length_append, hdP_length, List.length_drop, HX1.out, HF.out.1])
        have SZ := Lib.hid S8.out.pad
        clear S8
        go_upto_region 28 with (fail)
        refine wp_region_stage (w0 := w0) (os := (.heads (.slice Ag k cg) (hdP G) :: .pile (piP T ++ piP F) :: .box b5 23 #[.int .i64 ↑top, .int .i64 ↑bot] :: os)) (by kernel_rfl) (by kernel_rfl) (by kernel_rfl) [(0, 7, [7], fun vs => .cells (lineV (vs 7)) (List.replicate cols (blank q))), (1, 9, [7], fun vs => .heads (.slice (some ⟨gr, 0, none⟩) L.length c) (List.set (hdP X1 ++ (hdP F ++ hdP (R.drop d))) (a0 + d) (lineV (vs 7), false)))] [[], [], [], [], [], [3], [2], [0], [], [1]] [.none, .heads (.slice (some ⟨gr, 0, none⟩) L.length c) (hdP X1 ++ (hdP F ++ hdP (R.drop d))), .box b7 31 (pv q), .box p 37 #[.int .i64 ↑cols, .slice (some ⟨gr, 0, none⟩) L.length c]] (fun i u => match i with | 0 => u = (.slice (some ⟨gr, top * 2, none⟩) k (c - top) : Value) | 1 => u = (.int .i64 ↑d : Value) | 2 => u = (.pointer (some ⟨p, 0, none⟩) : Value) | 3 => u = (.pointer (some ⟨p, 0, none⟩) : Value) | 4 => u = (.pointer (some ⟨p, 0, none⟩) : Value) | 5 => u = (.int .i64 ↑cols : Value) | 6 => u = (.agg (pv q) : Value) | 7 => ∃ A m c, u = .agg #[.slice A m c, .bool false] | 8 => u = (.pointer (some ⟨gr, (a0 + d) * 2, none⟩) : Value) | 9 => True | _ => True) (fun vs => [.cells (lineV (vs 7)) (List.replicate cols (blank q)), .heads (.slice (some ⟨gr, 0, none⟩) L.length c) (List.set (hdP X1 ++ (hdP F ++ hdP (R.drop d))) (a0 + d) (lineV (vs 7), false)), .box b7 31 (pv q), .box p 37 #[.int .i64 ↑cols, .slice (some ⟨gr, 0, none⟩) L.length c]]) (by kernel_rfl) (fun vs => by rfl) SZ.out ?_ ?_
        · refine SSteps.cons (fun a w' vs σ hS hl hs hk => ?_) ?_
          · have e13 : a.tmps.getD 13 undef = (.slice (some ⟨gr, top * 2, none⟩) k (c - top) : Value) := (sk_old hk 13 (by kernel_rfl)).trans rfl
            have f13 := gd e13
            exact ro_pure (v := .slice (some ⟨gr, top * 2, none⟩) k (c - top)) (wanted_none rfl) (by simp [execOp, Act.eval, e13, f13, go_sem]) (sp_same (by kernel_rfl) hl hs hS (show (.slice (some ⟨gr, top * 2, none⟩) k (c - top) : Value) = _ from rfl)) trivial
          refine SSteps.cons (fun a w' vs σ hS hl hs hk => ?_) ?_
          · have e14 : a.tmps.getD 14 undef = (.int .i64 ↑d : Value) := (sk_old hk 14 (by kernel_rfl)).trans rfl
            have f14 := gd e14
            exact ro_pure (v := .int .i64 ↑d) (wanted_none rfl) (by simp [execOp, Act.eval, e14, f14, go_sem]) (sp_same (by kernel_rfl) hl hs hS (show (.int .i64 ↑d : Value) = _ from rfl)) trivial
          refine SSteps.cons (fun a w' vs σ hS hl hs hk => ?_) ?_
          · have e0 : a.tmps.getD 0 undef = (.pointer (some ⟨p, 0, none⟩) : Value) := (sk_old hk 0 (by kernel_rfl)).trans rfl
            have f0 := gd e0
            exact ro_pure (v := .pointer (some ⟨p, 0, none⟩)) (wanted_none rfl) (by simp [execOp, Act.eval, e0, f0, go_sem]) (sp_same (by kernel_rfl) hl hs hS (show (.pointer (some ⟨p, 0, none⟩) : Value) = _ from rfl)) trivial
          refine SSteps.cons (fun a w' vs σ hS hl hs hk => ?_) ?_
          · have e132 : a.tmps.getD 132 undef = (.pointer (some ⟨p, 0, none⟩) : Value) := (sk_val hk 2 (by kernel_rfl) rfl rfl).trans ((hk.1 2 (by kernel_rfl)).1)
            have f132 := gd e132
            exact ro_pure (v := .pointer (some ⟨p, 0, none⟩)) (wanted_none rfl) (by simp [execOp, Act.eval, e132, f132, go_sem]) (sp_same (by kernel_rfl) hl hs hS (show (.pointer (some ⟨p, 0, none⟩) : Value) = _ from rfl)) trivial
          refine SSteps.cons (fun a w' vs σ hS hl hs hk => ?_) ?_
          · have e133 : a.tmps.getD 133 undef = (.pointer (some ⟨p, 0, none⟩) : Value) := (sk_val hk 3 (by kernel_rfl) rfl rfl).trans ((hk.1 3 (by kernel_rfl)).1)
            have f133 := gd e133
            exact ro_pure (v := .pointer (some ⟨p, 0, none⟩)) (wanted_none rfl) (by simp [execOp, Act.eval, e133, f133, go_sem]) (sp_same (by kernel_rfl) hl hs hS (show (.pointer (some ⟨p, 0, none⟩) : Value) = _ from rfl)) trivial
          refine SSteps.cons (fun a w' vs σ hS hl hs hk => ?_) ?_
          · have e134 : a.tmps.getD 134 undef = (.pointer (some ⟨p, 0, none⟩) : Value) := (sk_val hk 4 (by kernel_rfl) rfl rfl).trans ((hk.1 4 (by kernel_rfl)).1)
            have f134 := gd e134
            have hx := (hS.box (sg (hs 3 (by decide)))).cell
            exact ro_pure (v := .int .i64 ↑cols) (wanted_none rfl) (by simp [execOp, Act.eval, e134, f134, go_sem, hx]) (sp_same (by kernel_rfl) hl hs hS (show (.int .i64 ↑cols : Value) = _ from rfl)) trivial
          refine SSteps.cons (fun a w' vs σ hS hl hs hk => ?_) ?_
          · have e7 : a.tmps.getD 7 undef = (.pointer (some ⟨b7, 0, none⟩) : Value) := (sk_old hk 7 (by kernel_rfl)).trans rfl
            have f7 := gd e7
            have hx := (hS.box (sg (hs 2 (by decide)))).penAt
            exact ro_pure (v := .agg (pv q)) (wanted_none rfl) (by simp [execOp, Act.eval, e7, f7, go_sem, hx]) (sp_same (by kernel_rfl) hl hs hS (show (.agg (pv q) : Value) = _ from rfl)) trivial
          refine SSteps.cons (fun a w' vs σ hS hl hs hk => ?_) ?_
          · have e135 : a.tmps.getD 135 undef = (.int .i64 ↑cols : Value) := (sk_val hk 5 (by kernel_rfl) rfl rfl).trans ((hk.1 5 (by kernel_rfl)).1)
            have f135 := gd e135
            have e136 : a.tmps.getD 136 undef = (.agg (pv q) : Value) := (sk_val hk 6 (by kernel_rfl) rfl rfl).trans ((hk.1 6 (by kernel_rfl)).1)
            have f136 := gd e136
            have h0 : σ[0]? = some .none := hs 0 (by decide)
            exact ro_call (f := 67) (wanted_none rfl) rfl (by simp only [List.map_toArray, List.map_cons, List.map_nil, Act.eval, e135, e136] <;> rfl) (fun _ _ => by kernel_rfl) ((gridblanks_any cols hcm q _ _ _ hS).mono fun e w2 ⟨x, h1, h2⟩ => ⟨_, h1, sp_set 0 (.cells x (List.replicate cols (blank q))) (by kernel_rfl) (by simp) (by decide) hl hs (by rfl) (h2.place (sg h0)) (by obtain ⟨A', c', e, -⟩ := h2.cellsRd (k := 0) rfl; exact ⟨A', _, c', by rw [e]⟩), trivial⟩)
          refine SSteps.cons (fun a w' vs σ hS hl hs hk => ?_) ?_
          · have e130 : a.tmps.getD 130 undef = (.slice (some ⟨gr, top * 2, none⟩) k (c - top) : Value) := (sk_val hk 0 (by kernel_rfl) rfl rfl).trans ((hk.1 0 (by kernel_rfl)).1)
            have f130 := gd e130
            have e131 : a.tmps.getD 131 undef = (.int .i64 ↑d : Value) := (sk_val hk 1 (by kernel_rfl) rfl rfl).trans ((hk.1 1 (by kernel_rfl)).1)
            have f131 := gd e131
            exact ro_pure (v := .pointer (some ⟨gr, (a0 + d) * 2, none⟩)) (wanted_none rfl) (by simp [execOp, Act.eval, e130, f130, e131, f131, go_sem, hiz, hiz2, hoff]) (sp_same (by kernel_rfl) hl hs hS (show (.pointer (some ⟨gr, (a0 + d) * 2, none⟩) : Value) = _ from rfl)) trivial
          refine SSteps.cons (fun a w' vs σ hS hl hs hk => ?_) ?_
          · have e138 : a.tmps.getD 138 undef = (.pointer (some ⟨gr, (a0 + d) * 2, none⟩) : Value) := (sk_val hk 8 (by kernel_rfl) rfl rfl).trans ((hk.1 8 (by kernel_rfl)).1)
            have f138 := gd e138
            have e137 : a.tmps.getD 137 undef = vs 7 := sk_val hk 7 (by kernel_rfl) rfl rfl
            have p137 : (fun u : Value => ∃ A m c, u = .agg #[.slice A m c, .bool false]) (vs 7) := (hk.1 7 (by kernel_rfl)).1
            have f137 := gd e137
            obtain ⟨A7, n7, c7, q7⟩ := p137
            have h1 : σ[1]? = some (.heads (.slice (some ⟨gr, 0, none⟩) L.length c) (hdP X1 ++ (hdP F ++ hdP (R.drop d)))) := hs 1 (by decide)
            obtain ⟨A8, c8, e8, -, -, -, hg8⟩ := hS.headsForm (sg h1)
            simp only [Value.slice.injEq] at e8
            obtain ⟨rfl, -, rfl⟩ := e8
            have hHl := HHL.out
            obtain ⟨g8, e9, hz, hcs, hf⟩ := hg8 (by omega)
            cases e9
            obtain ⟨x8, hx8⟩ := get_of (show a0 + d < (hdP X1 ++ (hdP F ++ hdP (R.drop d))).length by omega)
            obtain ⟨hx, hx'⟩ := hcs (a0 + d) x8 hx8
            exact rstep_store (w2 := (w'.setCell ⟨gr, (a0 + d) * 2, none⟩ (.slice A7 n7 c7)).setCell ⟨gr, (a0 + d) * 2 + 1, none⟩ (.bool false)) (wanted_none rfl) rfl (by simp [execOp, Act.eval, e138, f138, e137, f137, q7, hx, hx', hf, hz, go_sem]) (sp_set 1 (.heads (.slice (some ⟨gr, 0, none⟩) L.length c) (List.set (hdP X1 ++ (hdP F ++ hdP (R.drop d))) (a0 + d) (.slice A7 n7 c7, false))) (by kernel_rfl) (by simp) (by decide) hl hs (by show Ob.heads _ (List.set _ _ (lineV (vs 7), false)) = _; rw [q7]; rfl) (hS.storeHead (sg h1)) trivial) trivial
          exact SSteps.nil
        · intro vs w' hS hv
          have q0 := (show vs 0 = (.slice (some ⟨gr, top * 2, none⟩) k (c - top) : Value) from hv 0 (by decide))
          have q1 := (show vs 1 = (.int .i64 ↑d : Value) from hv 1 (by decide))
          have q2 := (show vs 2 = (.pointer (some ⟨p, 0, none⟩) : Value) from hv 2 (by decide))
          have q3 := (show vs 3 = (.pointer (some ⟨p, 0, none⟩) : Value) from hv 3 (by decide))
          have q4 := (show vs 4 = (.pointer (some ⟨p, 0, none⟩) : Value) from hv 4 (by decide))
          have q5 := (show vs 5 = (.int .i64 ↑cols : Value) from hv 5 (by decide))
          have q6 := (show vs 6 = (.agg (pv q) : Value) from hv 6 (by decide))
          have q8 := (show vs 8 = (.pointer (some ⟨gr, (a0 + d) * 2, none⟩) : Value) from hv 8 (by decide))
          obtain ⟨A7, n7, c7, q7⟩ := (show ∃ A m c, vs 7 = .agg #[.slice A m c, .bool false] from hv 7 (by decide))
          rw [q7] at hS
          have S2 := Lib.hid hS
          simp only [putL, Act.put, Nat.zero_add, Nat.reduceAdd, List.setIfInBounds_toArray, List.set_cons_succ, List.set_cons_zero, q0, q1, q2, q3, q4, q5, q6, q8]
          clear hS hv q0 q1 q2 q3 q4 q5 q6 q8
          simp only [q7]
          have S9 := S2.out
          rw [show lineV (.agg #[.slice A7 n7 c7, .bool false]) = .slice A7 n7 c7 from rfl, hdP_fill (.slice A7 n7 c7) (List.replicate cols (blank q)) false HX1.out HF.out.1 hiR] at S9
          have S10 := Lib.hid (show Objs w0 w' (.heads (.slice (some ⟨gr, 0, none⟩) L.length c) (hdP X1 ++ (hdP (F ++ [(.slice A7 n7 c7, (List.replicate cols (blank q)), false)]) ++ hdP (R.drop (d + 1)))) :: .box b7 31 (pv q) :: .box p 37 #[.int .i64 ↑cols, .slice (some ⟨gr, 0, none⟩) L.length c] :: .heads (.slice Ag k cg) (hdP G) :: .pile (piP T ++ piP (F ++ [(.slice A7 n7 c7, (List.replicate cols (blank q)), false)])) :: .box b5 23 #[.int .i64 ↑top, .int .i64 ↑bot] :: os) from by have := Objs.pileIn S9; rw [List.append_assoc] at this; rw [piP_append]; exact this)
          clear S9 S2
          go_wp2_with fail
          go_roundw
          case rel => exact ⟨d + 1, F ++ [(.slice A7 n7 c7, (List.replicate cols (blank q)), false)], by omega, by go_num, ⟨by simp [HF.out.1], by rw [lnP_append, HF.out.2]; unfold rollFresh; rw [List.replicate_succ']; rfl⟩, S10.out⟩
          case measure => simp [intOf]; omega
end
end Go.Proofs.YtghahanpmcpacaaDoor
