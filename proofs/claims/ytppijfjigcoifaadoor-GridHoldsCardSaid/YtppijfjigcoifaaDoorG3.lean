/-
  Part 3 of the texts on which the proofs of this seat stand: each part says ahead of it what it shows.
-/
import Derived.Test.YtppijfjigcoifaaDoorG2
import Derived.Lib.MinMax
set_option linter.unusedSimpArgs false
set_option linter.unusedVariables false
namespace Go.Proofs.YtppijfjigcoifaaDoor
open Go.RowKit

def clearC (f t : Nat) (q : Pen) (cs : List Cell) : List Cell := if f < t then wipeC f (t - f) q (brk t (brk f cs)) else cs
theorem clearC_length {f t : Nat} {q : Pen} {cs : List Cell} (h : t ≤ cs.length) : (clearC f t q cs).length = cs.length := by
 unfold clearC
 split
 ·rw [wipeC_length (by rw [brk_length, brk_length]; omega), brk_length, brk_length]
 ·rfl
def shiftR (j k : Nat) (q : Pen) (cs : List Cell) : List Cell := let l := brk (cs.length - k) (brk j cs); l.take j ++ (List.replicate k (blank q) ++ (l.drop j).take (cs.length - k - j))
def shiftL (j k : Nat) (q : Pen) (cs : List Cell) : List Cell := let l := brk (j + k) (brk j cs); l.take j ++ (l.drop (j + k) ++ List.replicate k (blank q))
theorem shiftR_length {j k : Nat} {q : Pen} {cs : List Cell} (h : j + k ≤ cs.length) : (shiftR j k q cs).length = cs.length := by
 simp only [shiftR, List.length_append, List.length_take, List.length_drop, List.length_replicate, brk_length]; omega
theorem shiftL_length {j k : Nat} {q : Pen} {cs : List Cell} (h : j + k ≤ cs.length) : (shiftL j k q cs).length = cs.length := by
 simp only [shiftL, List.length_append, List.length_take, List.length_drop, List.length_replicate, brk_length]; omega
theorem shiftR_is {j k : Nat} {q : Pen} {l : List Cell} (h : j + k ≤ l.length) :
  wipeC j k q (l.take (j + k) ++ ((l.drop j).take (l.length - k - j) ++ l.drop (j + k + (l.length - k - j)))) = l.take j ++ (List.replicate k (blank q) ++ (l.drop j).take (l.length - k - j)) := by
 unfold wipeC
 have e1 : l.drop (j + k + (l.length - k - j)) = [] := List.drop_eq_nil_of_le (by omega)
 rw [e1, List.append_nil]
 have hlen : (l.take (j + k)).length = j + k := by simp; omega
 rw [List.take_append_of_le_length (by omega), List.take_take, Nat.min_eq_left (by omega), List.drop_left' hlen]
 simp
theorem shiftL_is {j k : Nat} {q : Pen} {l : List Cell} (h : j + k ≤ l.length) :
  wipeC (l.length - k) k q (l.take j ++ ((l.drop (j + k)).take (l.length - (j + k)) ++ l.drop (j + (l.length - (j + k))))) = l.take j ++ (l.drop (j + k) ++ List.replicate k (blank q)) := by
 unfold wipeC
 have e1 : (l.drop (j + k)).take (l.length - (j + k)) = l.drop (j + k) := List.take_of_length_le (by simp)
 rw [e1]
 have hlen : (l.take j ++ l.drop (j + k)).length = l.length - k := by simp; omega
 rw [List.drop_eq_nil_of_le (i := l.length - k + k) (by simp only [List.length_append, List.length_take, List.length_drop]; omega), ← List.append_assoc, List.take_left' hlen, List.append_nil, List.append_assoc]
section
variable {w0 w : World} {os : List Ob} {p cols : Nat} {L : List Ln}
set_option maxRecDepth 100000 in
set_option maxHeartbeats 4000000 in
theorem Clear_yes {i f t : Nat} {l : Ln} (q : Pen) (hT : Tabs w0) (hS : Objs w0 w (.grid p 58 cols L :: os)) (hc : 0 < cols) (hcm : cols ≤ 1000) (hl : L[i]? = some l) (hrow : l.1.length = cols) (hq : q.ok = true) (hft : f < t) (ht : t ≤ cols) :
  Calls Tryd.prog 51 #[.pointer (some ⟨p, 0, none⟩), .int .i64 i, .int .i64 f, .int .i64 t, .agg (pv q)] w fun e w' => e = .returned (.int .i64 0) ∧ Objs w0 w' (.grid p 58 cols (L.set i (clearC f t q l.1, l.2)) :: os) := by
 have S := Lib.hid hS
 have hi : i < L.length := (List.getElem?_eq_some_iff.1 hl).1
 have HL := Lib.hid hl
 have HT := Lib.hid hT
 have HQ := Lib.hid hq
 have HROW := Lib.hid hrow
 have hlr : l.1.length ≤ 1000 := by omega
 have hlr2 : cols ≤ l.1.length := by omega
 have hlr3 : l.1.length ≤ cols := by omega
 have HE := Lib.hid (show thereE i L = 0 by unfold thereE; rw [if_pos ⟨by omega, by omega⟩])
 have HP := Lib.hid (show clearC f t q l.1 = wipeC f (t - f) q (brk t (brk f l.1)) from if_pos hft)
 clear hS hT hl hrow hq
 go_enter Tryd.func51, Tryd.ntmps51
 go_wp2_with fail
 refine (there_any i S.out.alloc1 (k := 1) rfl hc).mono ?_
 rw [HE.out]
 rintro e w1 ⟨rfl, hS⟩
 have S1 := Lib.hid hS
 obtain ⟨A0, c0, hB0, -, -⟩ := hS.gridRd (k := 1) rfl
 obtain ⟨hx0, hf0, hz0⟩ := hB0.facts
 obtain ⟨hx9, hf9, hz9, hp9⟩ := (hS.box (k := 0) rfl).pbox
 clear hS S hB0
 generalize w.heap.size = b9 at S1 hx9 hf9 hz9 hp9 ⊢
 go_wp2_with fail
 refine (inked_is HQ.out HT.out S1.out).mono ?_
 rintro e w2 ⟨rfl, hS⟩
 have S2 := Lib.hid hS
 clear hS hx0 hf0 hz0 hx9 hf9 hz9 hp9
 obtain ⟨v, b, hS3⟩ := S2.out.swap.openAt HL.out
 obtain ⟨A, c, rfl, hrd⟩ := hS3.cellsRd (k := 0) rfl
 have hnc : l.1.length ≤ c := hrd.1
 obtain ⟨g, rfl, -, -, -, -⟩ := (hS3.own (k := 0) rfl).head (by omega)
 obtain ⟨gr, cr, rfl, h1, h2, h3, h4, h5, h6, h7⟩ := hS3.linesxRd (k := 1) rfl
 obtain ⟨hx2, hf2, hz2⟩ := (hS3.box (k := 2) rfl).facts
 have hlen2 : L.length ≤ 9223372036854775807 := by unfold maxLen at h2; omega
 have S3 := Lib.hid hS3
 clear hS3 h1 h2 h6 hrd
 go_wp2_with fail
 refine (split_at (c := f) S3.out rfl rfl (by omega) (by omega)).mono ?_
 rintro e w4 ⟨rfl, hS4⟩
 have S4 := Lib.hid hS4
 clear hS4 hx2 hf2 hz2 h4 h5 h7
 go_wp2_with fail
 refine (split_at (c := t) S4.out (by rw [brk_length]) rfl (by rw [brk_length]; omega) (by omega)).mono ?_
 rintro e w5 ⟨rfl, hS5⟩
 have S5 := Lib.hid hS5
 clear hS5
 go_upto_region 13 with (fail)
 refine wp_region_stage (w0 := w0) (os := os) (by kernel_rfl) (by kernel_rfl) (by kernel_rfl) [(0, 5, [], fun vs => .cells (.slice (some ⟨g, 0, none⟩) l.1.length c) (wipeC f (t - f) q (brk t (brk f l.1))))] [[], [], [], [], [3], [0]] [.cells (.slice (some ⟨g, 0, none⟩) l.1.length c) (brk t (brk f l.1)), .linesx (.slice (some ⟨gr, 0, none⟩) L.length cr) L i (.slice (some ⟨g, 0, none⟩) l.1.length c), .box p 58 #[.int .i64 ↑cols, .slice (some ⟨gr, 0, none⟩) L.length cr], .box b9 54 (pv q)] (fun i u => match i with | 0 => u = .slice (some ⟨g, 0, none⟩) l.1.length c | 1 => u = .int .i64 ↑f | 2 => u = .int .i64 ↑t | 3 => u = .slice (some ⟨g, f * 16, none⟩) (t - f) (c - f) | 4 => u = .agg (pv q) | 5 => u = .tuple #[] | _ => True) (fun vs => [.cells (.slice (some ⟨g, 0, none⟩) l.1.length c) (wipeC f (t - f) q (brk t (brk f l.1))), .linesx (.slice (some ⟨gr, 0, none⟩) L.length cr) L i (.slice (some ⟨g, 0, none⟩) l.1.length c), .box p 58 #[.int .i64 ↑cols, .slice (some ⟨gr, 0, none⟩) L.length cr], .box b9 54 (pv q)]) (by kernel_rfl) (fun vs => by rfl) S5.out ?_ ?_
 ·apply sc
  ·intro a w' vs σ hS hl hs hk
   have f12 : a.tmps[12]?.getD undef = .slice (some ⟨g, 0, none⟩) l.1.length c := sof hk
   exact rp (.slice (some ⟨g, 0, none⟩) l.1.length c) (by simp [execOp, Act.eval, f12, go_sem]) hl hs hS
  apply sc
  ·intro a w' vs σ hS hl hs hk
   have f2 : a.tmps[2]?.getD undef = .int .i64 ↑f := sof hk
   exact rp (.int .i64 ↑f) (by simp [execOp, Act.eval, f2, go_sem]) hl hs hS
  apply sc
  ·intro a w' vs σ hS hl hs hk
   have f3 : a.tmps[3]?.getD undef = .int .i64 ↑t := sof hk
   exact rp (.int .i64 ↑t) (by simp [execOp, Act.eval, f3, go_sem]) hl hs hS
  apply sc
  ·intro a w' vs σ hS hl hs hk
   have f58 : a.tmps[58]?.getD undef = .slice (some ⟨g, 0, none⟩) l.1.length c := svf hk 0
   have f59 : a.tmps[59]?.getD undef = .int .i64 ↑f := svf hk 1
   have f60 : a.tmps[60]?.getD undef = .int .i64 ↑t := svf hk 2
   exact rs_run (wanted_none rfl) (exec_slice rfl (by simp [Act.eval, f58, f59, f60]) (by simp [Act.eval, f58, f59, f60]; try rfl) (by simp [Act.eval, f58, f59, f60]; try rfl) (run_mid w' g l.1.length c f t (by omega) (by omega) (by omega) (by omega) (by omega))) (sp_same (by kernel_rfl) hl hs hS (show (.slice (some ⟨g, f * 16, none⟩) (t - f) (c - f) : Value) = _ from rfl))
  apply sc
  ·intro a w' vs σ hS hl hs hk
   have f9 : a.tmps[9]?.getD undef = .pointer (some ⟨b9, 0, none⟩) := sof hk
   have hx := (hS.box (sg (hs 3 (by decide)))).penAt
   exact rp (.agg (pv q)) (by simp [execOp, Act.eval, f9, go_sem, hx]) hl hs hS
  apply sc
  ·intro a w' vs σ hS hl hs hk
   have e61 : a.tmps.getD 61 undef = .slice (some ⟨g, f * 16, none⟩) (t - f) (c - f) := svv hk 3
   have e62 : a.tmps.getD 62 undef = .agg (pv q) := svv hk 4
   have h0 : σ[0]? = some (.cells (.slice (some ⟨g, 0, none⟩) l.1.length c) (brk t (brk f l.1))) := hs 0 (by decide)
   exact ro_call (f := 89) (wanted_none rfl) rfl (by simp only [List.map_toArray, List.map_cons, List.map_nil, Act.eval, e61, e62] <;> rfl) (fun _ _ => by kernel_rfl) ((front_call hS (sg h0) (fun os1 h => wipe_front g l.1.length c (f) (t - f) (c - f) (brk t (brk f l.1)) q w0 w' os1 h (by rw [brk_length, brk_length]; omega) (by omega) (by rw [brk_length, brk_length]; omega))).mono fun e w2 ⟨h1, h2⟩ => ⟨_, h1, sp_set 0 _ (by kernel_rfl) (by simp) (by decide) hl hs (by rfl) h2 rfl, trivial⟩)
  exact SSteps.nil
 ·intro vs w' hS hv
  have q0 : vs 0 = _ := hv 0 (by decide)
  have q1 : vs 1 = _ := hv 1 (by decide)
  have q2 : vs 2 = _ := hv 2 (by decide)
  have q3 : vs 3 = _ := hv 3 (by decide)
  have q4 : vs 4 = _ := hv 4 (by decide)
  have q5 : vs 5 = _ := hv 5 (by decide)
  have S2 := Lib.hid hS
  simp only [putL, Act.put, Nat.zero_add, Nat.reduceAdd, List.setIfInBounds_toArray, List.set_cons_succ, List.set_cons_zero, q0, q1, q2, q3, q4, q5]
  clear hS hv q0 q1 q2 q3 q4 q5
  have HF := (show Objs w0 w' (_ :: _ :: _ :: _ :: os) from S2.out).closeAt HL.out
  rw [← HP.out] at HF
  go_wp2_with fail
  go_ret
  exact ⟨rfl, HF.drop2⟩
set_option maxRecDepth 100000 in
set_option maxHeartbeats 1000000 in
theorem Clear_out {row f t : Int} (q : Pen) (hT : Tabs w0) (hS : Objs w0 w (.grid p 58 cols L :: os)) (hc : 0 < cols) (hcm : cols ≤ 1000) (hno : ¬ (0 ≤ row ∧ row < L.length)) :
  Calls Tryd.prog 51 #[.pointer (some ⟨p, 0, none⟩), .int .i64 row, .int .i64 f, .int .i64 t, .agg (pv q)] w fun e w' => e = .returned (.int .i64 3) ∧ Objs w0 w' (.grid p 58 cols L :: os) := by
 have S := Lib.hid hS
 have HT := Lib.hid hT
 have HE := Lib.hid (show thereE row L = 3 by unfold thereE; rw [if_neg hno])
 clear hno
 clear hS hT
 go_enter Tryd.func51, Tryd.ntmps51
 go_wp2_with fail
 refine (there_any row S.out.alloc1 (k := 1) rfl hc).mono ?_
 rw [HE.out]
 rintro e w1 ⟨rfl, hS⟩
 have S1 := Lib.hid hS
 obtain ⟨A0, c0, hB0, -, -⟩ := hS.gridRd (k := 1) rfl
 obtain ⟨hx0, hf0, hz0⟩ := hB0.facts
 obtain ⟨hx9, hf9, hz9, hp9⟩ := (hS.box (k := 0) rfl).pbox
 clear hS S hB0
 generalize w.heap.size = b9 at S1 hx9 hf9 hz9 hp9 ⊢
 go_wp2_with fail
 go_ret
 exact ⟨rfl, S1.out.tail⟩
set_option maxRecDepth 100000 in
set_option maxHeartbeats 1000000 in
theorem Clear_range_a {row f t : Int} (q : Pen) (hT : Tabs w0) (hS : Objs w0 w (.grid p 58 cols L :: os)) (hc : 0 < cols) (hcm : cols ≤ 1000) (hin : 0 ≤ row ∧ row < L.length) (hft : f < 0) :
  Calls Tryd.prog 51 #[.pointer (some ⟨p, 0, none⟩), .int .i64 row, .int .i64 f, .int .i64 t, .agg (pv q)] w fun e w' => e = .returned (.int .i64 3) ∧ Objs w0 w' (.grid p 58 cols L :: os) := by
 have S := Lib.hid hS
 have HT := Lib.hid hT
 have HE := Lib.hid (show thereE row L = 0 by unfold thereE; rw [if_pos hin])
 clear hin
 clear hS hT
 go_enter Tryd.func51, Tryd.ntmps51
 go_wp2_with fail
 refine (there_any row S.out.alloc1 (k := 1) rfl hc).mono ?_
 rw [HE.out]
 rintro e w1 ⟨rfl, hS⟩
 have S1 := Lib.hid hS
 obtain ⟨A0, c0, hB0, -, -⟩ := hS.gridRd (k := 1) rfl
 obtain ⟨hx0, hf0, hz0⟩ := hB0.facts
 obtain ⟨hx9, hf9, hz9, hp9⟩ := (hS.box (k := 0) rfl).pbox
 clear hS S hB0
 generalize w.heap.size = b9 at S1 hx9 hf9 hz9 hp9 ⊢
 go_wp2_with fail
 go_ret
 exact ⟨rfl, S1.out.tail⟩
set_option maxRecDepth 100000 in
set_option maxHeartbeats 1000000 in
theorem Clear_range_b {row f t : Int} (q : Pen) (hT : Tabs w0) (hS : Objs w0 w (.grid p 58 cols L :: os)) (hc : 0 < cols) (hcm : cols ≤ 1000) (hin : 0 ≤ row ∧ row < L.length) (hft : 0 ≤ f ∧ t < f) :
  Calls Tryd.prog 51 #[.pointer (some ⟨p, 0, none⟩), .int .i64 row, .int .i64 f, .int .i64 t, .agg (pv q)] w fun e w' => e = .returned (.int .i64 3) ∧ Objs w0 w' (.grid p 58 cols L :: os) := by
 have S := Lib.hid hS
 have HT := Lib.hid hT
 have HE := Lib.hid (show thereE row L = 0 by unfold thereE; rw [if_pos hin])
 clear hin
 clear hS hT
 go_enter Tryd.func51, Tryd.ntmps51
 go_wp2_with fail
 refine (there_any row S.out.alloc1 (k := 1) rfl hc).mono ?_
 rw [HE.out]
 rintro e w1 ⟨rfl, hS⟩
 have S1 := Lib.hid hS
 obtain ⟨A0, c0, hB0, -, -⟩ := hS.gridRd (k := 1) rfl
 obtain ⟨hx0, hf0, hz0⟩ := hB0.facts
 obtain ⟨hx9, hf9, hz9, hp9⟩ := (hS.box (k := 0) rfl).pbox
 clear hS S hB0
 generalize w.heap.size = b9 at S1 hx9 hf9 hz9 hp9 ⊢
 go_wp2_with fail
 go_ret
 exact ⟨rfl, S1.out.tail⟩
set_option maxRecDepth 100000 in
set_option maxHeartbeats 1000000 in
theorem Clear_range_c {row f t : Int} (q : Pen) (hT : Tabs w0) (hS : Objs w0 w (.grid p 58 cols L :: os)) (hc : 0 < cols) (hcm : cols ≤ 1000) (hin : 0 ≤ row ∧ row < L.length) (hft : 0 ≤ f ∧ f ≤ t ∧ (cols : Int) < t) :
  Calls Tryd.prog 51 #[.pointer (some ⟨p, 0, none⟩), .int .i64 row, .int .i64 f, .int .i64 t, .agg (pv q)] w fun e w' => e = .returned (.int .i64 3) ∧ Objs w0 w' (.grid p 58 cols L :: os) := by
 have S := Lib.hid hS
 have HT := Lib.hid hT
 have HE := Lib.hid (show thereE row L = 0 by unfold thereE; rw [if_pos hin])
 clear hin
 clear hS hT
 go_enter Tryd.func51, Tryd.ntmps51
 go_wp2_with fail
 refine (there_any row S.out.alloc1 (k := 1) rfl hc).mono ?_
 rw [HE.out]
 rintro e w1 ⟨rfl, hS⟩
 have S1 := Lib.hid hS
 obtain ⟨A0, c0, hB0, -, -⟩ := hS.gridRd (k := 1) rfl
 obtain ⟨hx0, hf0, hz0⟩ := hB0.facts
 obtain ⟨hx9, hf9, hz9, hp9⟩ := (hS.box (k := 0) rfl).pbox
 clear hS S hB0
 generalize w.heap.size = b9 at S1 hx9 hf9 hz9 hp9 ⊢
 go_wp2_with fail
 go_ret
 exact ⟨rfl, S1.out.tail⟩
set_option maxRecDepth 100000 in
set_option maxHeartbeats 1000000 in
theorem Clear_pen {row f t : Int} (q : Pen) (hT : Tabs w0) (hS : Objs w0 w (.grid p 58 cols L :: os)) (hc : 0 < cols) (hcm : cols ≤ 1000) (hin : 0 ≤ row ∧ row < L.length) (hft : 0 ≤ f ∧ f ≤ t ∧ t ≤ cols) (hq : q.ok = false) :
  Calls Tryd.prog 51 #[.pointer (some ⟨p, 0, none⟩), .int .i64 row, .int .i64 f, .int .i64 t, .agg (pv q)] w fun e w' => e = .returned (.int .i64 2) ∧ Objs w0 w' (.grid p 58 cols L :: os) := by
 have S := Lib.hid hS
 have HT := Lib.hid hT
 have HE := Lib.hid (show thereE row L = 0 by unfold thereE; rw [if_pos hin])
 clear hin
 have HQ := Lib.hid hq
 clear hq
 clear hS hT
 go_enter Tryd.func51, Tryd.ntmps51
 go_wp2_with fail
 refine (there_any row S.out.alloc1 (k := 1) rfl hc).mono ?_
 rw [HE.out]
 rintro e w1 ⟨rfl, hS⟩
 have S1 := Lib.hid hS
 obtain ⟨A0, c0, hB0, -, -⟩ := hS.gridRd (k := 1) rfl
 obtain ⟨hx0, hf0, hz0⟩ := hB0.facts
 obtain ⟨hx9, hf9, hz9, hp9⟩ := (hS.box (k := 0) rfl).pbox
 clear hS S hB0
 generalize w.heap.size = b9 at S1 hx9 hf9 hz9 hp9 ⊢
 go_wp2_with fail
 refine (inked_is HQ.out HT.out S1.out).mono ?_
 rintro e w2 ⟨rfl, hS⟩
 have S2 := Lib.hid hS
 clear hS
 go_wp2_with fail
 go_ret
 exact ⟨rfl, S2.out.tail⟩
set_option maxRecDepth 100000 in
set_option maxHeartbeats 1000000 in
theorem Clear_none {row f t : Int} (q : Pen) (hT : Tabs w0) (hS : Objs w0 w (.grid p 58 cols L :: os)) (hc : 0 < cols) (hcm : cols ≤ 1000) (hin : 0 ≤ row ∧ row < L.length) (hft : 0 ≤ f ∧ f = t ∧ t ≤ cols) (hq : q.ok = true) :
  Calls Tryd.prog 51 #[.pointer (some ⟨p, 0, none⟩), .int .i64 row, .int .i64 f, .int .i64 t, .agg (pv q)] w fun e w' => e = .returned (.int .i64 0) ∧ Objs w0 w' (.grid p 58 cols L :: os) := by
 have S := Lib.hid hS
 have HT := Lib.hid hT
 have HE := Lib.hid (show thereE row L = 0 by unfold thereE; rw [if_pos hin])
 clear hin
 have HQ := Lib.hid hq
 obtain ⟨hf, rfl, hft⟩ := hft
 clear hq
 clear hS hT
 go_enter Tryd.func51, Tryd.ntmps51
 go_wp2_with fail
 refine (there_any row S.out.alloc1 (k := 1) rfl hc).mono ?_
 rw [HE.out]
 rintro e w1 ⟨rfl, hS⟩
 have S1 := Lib.hid hS
 obtain ⟨A0, c0, hB0, -, -⟩ := hS.gridRd (k := 1) rfl
 obtain ⟨hx0, hf0, hz0⟩ := hB0.facts
 obtain ⟨hx9, hf9, hz9, hp9⟩ := (hS.box (k := 0) rfl).pbox
 clear hS S hB0
 generalize w.heap.size = b9 at S1 hx9 hf9 hz9 hp9 ⊢
 go_wp2_with fail
 refine (inked_is HQ.out HT.out S1.out).mono ?_
 rintro e w2 ⟨rfl, hS⟩
 have S2 := Lib.hid hS
 clear hS
 go_wp2_with fail
 go_ret
 exact ⟨rfl, S2.out.tail⟩
set_option maxRecDepth 100000 in
set_option maxHeartbeats 4000000 in
theorem Shift_right {i j k : Nat} {l : Ln} (q : Pen) (hT : Tabs w0) (hS : Objs w0 w (.grid p 58 cols L :: os)) (hc : 0 < cols) (hcm : cols ≤ 1000) (hl : L[i]? = some l) (hrow : l.1.length = cols) (hq : q.ok = true) (n : Int) (hj : j < cols) (hn : 0 < n) (hn2 : n ≤ 9223372036854775807) (hk : (k : Int) = min n ((cols - j : Nat) : Int)) :
  Calls Tryd.prog 52 #[.pointer (some ⟨p, 0, none⟩), .int .i64 i, .int .i64 j, .int .i64 n, .agg (pv q)] w fun e w' => e = .returned (.int .i64 0) ∧ Objs w0 w' (.grid p 58 cols (L.set i (shiftR j k q l.1, l.2)) :: os) := by
 have S := Lib.hid hS
 have hi : i < L.length := (List.getElem?_eq_some_iff.1 hl).1
 have HL := Lib.hid hl
 have HT := Lib.hid hT
 have HQ := Lib.hid hq
 have HROW := Lib.hid hrow
 have hlr : l.1.length ≤ 1000 := by omega
 have hlr2 : cols ≤ l.1.length := by omega
 have hlr3 : l.1.length ≤ cols := by omega
 have HE := Lib.hid (show atE i j cols L = 0 by unfold atE; rw [if_pos ⟨⟨by omega, by omega⟩, by omega, by omega⟩])
 have hkj : j + k ≤ cols := by omega
 have hk1 : 1 ≤ k := by omega
 have hn0 : (n == 0) = false := by simp; omega
 have HP := Lib.hid (show wipeC j (j + k - j) q ((brk (cols - k) (brk j l.1)).take (j + k) ++ (((brk (cols - k) (brk j l.1)).drop j).take (cols - k - j) ++ (brk (cols - k) (brk j l.1)).drop (j + k + (cols - k - j)))) = shiftR j k q l.1 by
  have hb : (brk (cols - k) (brk j l.1)).length = cols := by rw [brk_length, brk_length, hrow]
  have h := shiftR_is (j := j) (k := k) (q := q) (l := brk (cols - k) (brk j l.1)) (by omega)
  rw [hb] at h
  rw [show j + k - j = k by omega, h]
  unfold shiftR
  rw [hrow])
 have hmin : min n ((cols : Int) - j) = (k : Int) := by omega
 clear hS hT hl hrow hq hk
 go_enter Tryd.func52, Tryd.ntmps52
 go_wp2_with fail
 refine (at_any i j S.out.alloc1 (k := 1) rfl hc).mono ?_
 rw [HE.out]
 rintro e w1 ⟨rfl, hS⟩
 have S1 := Lib.hid hS
 obtain ⟨A0, c0, hB0, -, -⟩ := hS.gridRd (k := 1) rfl
 obtain ⟨hx0, hf0, hz0⟩ := hB0.facts
 obtain ⟨hx9, hf9, hz9, hp9⟩ := (hS.box (k := 0) rfl).pbox
 clear hS S hB0
 generalize w.heap.size = b9 at S1 hx9 hf9 hz9 hp9 ⊢
 go_wp2_with fail
 refine (inked_is HQ.out HT.out S1.out).mono ?_
 rintro e w2 ⟨rfl, hS⟩
 have S2 := Lib.hid hS
 clear hS hx0 hf0 hz0 hx9 hf9 hz9 hp9
 obtain ⟨v, b, hS3⟩ := S2.out.swap.openAt HL.out
 obtain ⟨A, c, rfl, hrd⟩ := hS3.cellsRd (k := 0) rfl
 have hnc : l.1.length ≤ c := hrd.1
 obtain ⟨g, rfl, -, -, -, -⟩ := (hS3.own (k := 0) rfl).head (by omega)
 obtain ⟨gr, cr, rfl, h1, h2, h3, h4, h5, h6, h7⟩ := hS3.linesxRd (k := 1) rfl
 obtain ⟨hx2, hf2, hz2⟩ := (hS3.box (k := 2) rfl).facts
 have hlen2 : L.length ≤ 9223372036854775807 := by unfold maxLen at h2; omega
 have S3 := Lib.hid hS3
 clear hS3 h1 h2 h6 hrd
 go_wp2_with fail
 refine (split_at (c := j) S3.out rfl rfl (by omega) (by omega)).mono ?_
 rintro e w4 ⟨rfl, hS4⟩
 have S4 := Lib.hid hS4
 obtain ⟨hx2, hf2, hz2⟩ := (hS4.box (k := 2) rfl).facts
 clear hS4 h4 h5 h7
 go_wp2_with fail
 refine (split_at (n := (cols : Int) - k) (c := cols - k) S4.out (by rw [brk_length]) (by omega) (by rw [brk_length]; omega) (by omega)).mono ?_
 rintro e w5 ⟨rfl, hS5⟩
 have S5 := Lib.hid hS5
 have HW1 := Lib.hid (show IntKind.i64.wrap ((j : Int) + k) = ((j + k : Nat) : Int) by rw [IntWalk.i64_in _ (by omega)]; omega)
 have HW2 := Lib.hid (show IntKind.i64.wrap ((cols : Int) - k) = ((cols - k : Nat) : Int) by rw [IntWalk.i64_in _ (by omega)]; omega)
 clear hmin hn0
 clear hS5 hx2 hf2 hz2
 go_upto_region 14 with (fail)
 refine wp_region_stage (w0 := w0) (os := os) (by kernel_rfl) (by kernel_rfl) (by kernel_rfl) [(0, 14, [], fun vs => .cells (.slice (some ⟨g, 0, none⟩) l.1.length c) ((brk (cols - k) (brk j l.1)).take (j + k) ++ (((brk (cols - k) (brk j l.1)).drop j).take (cols - k - j) ++ (brk (cols - k) (brk j l.1)).drop (j + k + (cols - k - j)))))] [[], [], [], [], [], [], [], [], [], [], [2], [], [], [], [0]] [.cells (.slice (some ⟨g, 0, none⟩) l.1.length c) (brk (cols - k) (brk j l.1)), .linesx (.slice (some ⟨gr, 0, none⟩) L.length cr) L i (.slice (some ⟨g, 0, none⟩) l.1.length c), .box p 58 #[.int .i64 ↑cols, .slice (some ⟨gr, 0, none⟩) L.length cr], .box b9 54 (pv q)] (fun i u => match i with | 0 => u = .slice (some ⟨g, 0, none⟩) l.1.length c | 1 => u = .int .i64 ↑j | 2 => u = .int .i64 ↑k | 3 => u = .int .i64 ↑(j + k) | 4 => u = .slice (tailA (some ⟨g, 0, none⟩) c (j + k)) (l.1.length - (j + k)) (c - (j + k)) | 5 => u = .slice (some ⟨g, 0, none⟩) l.1.length c | 6 => u = .int .i64 ↑j | 7 => u = .pointer (some ⟨p, 0, none⟩) | 8 => u = .pointer (some ⟨p, 0, none⟩) | 9 => u = .pointer (some ⟨p, 0, none⟩) | 10 => u = .int .i64 ↑cols | 11 => u = .int .i64 ↑k | 12 => u = .int .i64 ↑(cols - k) | 13 => u = .slice (some ⟨g, j * 16, none⟩) (cols - k - j) (c - j) | 14 => True | _ => True) (fun vs => [.cells (.slice (some ⟨g, 0, none⟩) l.1.length c) ((brk (cols - k) (brk j l.1)).take (j + k) ++ (((brk (cols - k) (brk j l.1)).drop j).take (cols - k - j) ++ (brk (cols - k) (brk j l.1)).drop (j + k + (cols - k - j)))), .linesx (.slice (some ⟨gr, 0, none⟩) L.length cr) L i (.slice (some ⟨g, 0, none⟩) l.1.length c), .box p 58 #[.int .i64 ↑cols, .slice (some ⟨gr, 0, none⟩) L.length cr], .box b9 54 (pv q)]) (by kernel_rfl) (fun vs => by rfl) S5.out ?_ ?_
 ·apply sc
  ·intro a w' vs σ hS hl hs hk
   have f12 : a.tmps[12]?.getD undef = .slice (some ⟨g, 0, none⟩) l.1.length c := sof hk
   exact rp (.slice (some ⟨g, 0, none⟩) l.1.length c) (by simp [execOp, Act.eval, f12, go_sem]) hl hs hS
  apply sc
  ·intro a w' vs σ hS hl hs hk
   have f2 : a.tmps[2]?.getD undef = .int .i64 ↑j := sof hk
   exact rp (.int .i64 ↑j) (by simp [execOp, Act.eval, f2, go_sem]) hl hs hS
  apply sc
  ·intro a w' vs σ hS hl hs hk
   have f14 : a.tmps[14]?.getD undef = .int .i64 ↑k := sof hk
   exact rp (.int .i64 ↑k) (by simp [execOp, Act.eval, f14, go_sem]) hl hs hS
  apply sc
  ·intro a w' vs σ hS hl hs hk
   have f62 : a.tmps[62]?.getD undef = .int .i64 ↑j := svf hk 1
   have f63 : a.tmps[63]?.getD undef = .int .i64 ↑k := svf hk 2
   exact rp (.int .i64 ↑(j + k)) (by simp [execOp, Act.eval, f62, f63, go_sem, HW1.out]) hl hs hS
  apply sc
  ·intro a w' vs σ hS hl hs hk
   have f61 : a.tmps[61]?.getD undef = .slice (some ⟨g, 0, none⟩) l.1.length c := svf hk 0
   have f64 : a.tmps[64]?.getD undef = .int .i64 ↑(j + k) := svf hk 3
   exact rs_run (wanted_none rfl) (exec_slice rfl (by simp [Act.eval, f61, f64]) (by simp [Act.eval, f61, f64]; try rfl) (by simp [Act.eval, f61, f64]; try rfl) (run_from w' (some ⟨g, 0, none⟩) l.1.length c (j + k) (by omega) (by omega) (fun h => by cases h) (by omega))) (sp_same (by kernel_rfl) hl hs hS (show (.slice (tailA (some ⟨g, 0, none⟩) c (j + k)) (l.1.length - (j + k)) (c - (j + k)) : Value) = _ from rfl))
  apply sc
  ·intro a w' vs σ hS hl hs hk
   have f12 : a.tmps[12]?.getD undef = .slice (some ⟨g, 0, none⟩) l.1.length c := sof hk
   exact rp (.slice (some ⟨g, 0, none⟩) l.1.length c) (by simp [execOp, Act.eval, f12, go_sem]) hl hs hS
  apply sc
  ·intro a w' vs σ hS hl hs hk
   have f2 : a.tmps[2]?.getD undef = .int .i64 ↑j := sof hk
   exact rp (.int .i64 ↑j) (by simp [execOp, Act.eval, f2, go_sem]) hl hs hS
  apply sc
  ·intro a w' vs σ hS hl hs hk
   have f0 : a.tmps[0]?.getD undef = .pointer (some ⟨p, 0, none⟩) := sof hk
   exact rp (pt p 0) (by simp [execOp, Act.eval, f0, go_sem]) hl hs hS
  apply sc
  ·intro a w' vs σ hS hl hs hk
   have f68 : a.tmps[68]?.getD undef = .pointer (some ⟨p, 0, none⟩) := svf hk 7
   exact rp (pt p 0) (by simp [execOp, Act.eval, f68, go_sem]) hl hs hS
  apply sc
  ·intro a w' vs σ hS hl hs hk
   have f69 : a.tmps[69]?.getD undef = .pointer (some ⟨p, 0, none⟩) := svf hk 8
   exact rp (pt p 0) (by simp [execOp, Act.eval, f69, go_sem]) hl hs hS
  apply sc
  ·intro a w' vs σ hS hl hs hk
   have f70 : a.tmps[70]?.getD undef = .pointer (some ⟨p, 0, none⟩) := svf hk 9
   have hx := (hS.box (sg (hs 2 (by decide)))).cell
   exact rp (.int .i64 ↑cols) (by simp [execOp, Act.eval, f70, go_sem, hx]) hl hs hS
  apply sc
  ·intro a w' vs σ hS hl hs hk
   have f14 : a.tmps[14]?.getD undef = .int .i64 ↑k := sof hk
   exact rp (.int .i64 ↑k) (by simp [execOp, Act.eval, f14, go_sem]) hl hs hS
  apply sc
  ·intro a w' vs σ hS hl hs hk
   have f71 : a.tmps[71]?.getD undef = .int .i64 ↑cols := svf hk 10
   have f72 : a.tmps[72]?.getD undef = .int .i64 ↑k := svf hk 11
   exact rp (.int .i64 ↑(cols - k)) (by simp [execOp, Act.eval, f71, f72, go_sem, HW2.out]) hl hs hS
  apply sc
  ·intro a w' vs σ hS hl hs hk
   have f66 : a.tmps[66]?.getD undef = .slice (some ⟨g, 0, none⟩) l.1.length c := svf hk 5
   have f67 : a.tmps[67]?.getD undef = .int .i64 ↑j := svf hk 6
   have f73 : a.tmps[73]?.getD undef = .int .i64 ↑(cols - k) := svf hk 12
   exact rs_run (wanted_none rfl) (exec_slice rfl (by simp [Act.eval, f66, f67, f73]) (by simp [Act.eval, f66, f67, f73]; try rfl) (by simp [Act.eval, f66, f67, f73]; try rfl) (run_mid w' g l.1.length c j (cols - k) (by omega) (by omega) (by omega) (by omega) (by omega))) (sp_same (by kernel_rfl) hl hs hS (show (.slice (some ⟨g, j * 16, none⟩) (cols - k - j) (c - j) : Value) = _ from rfl))
  apply sc
  ·intro a w' vs σ hS hl hs hk
   have e65 : a.tmps.getD 65 undef = .slice (tailA (some ⟨g, 0, none⟩) c (j + k)) (l.1.length - (j + k)) (c - (j + k)) := svv hk 4
   have e74 : a.tmps.getD 74 undef = .slice (some ⟨g, j * 16, none⟩) (cols - k - j) (c - j) := svv hk 13
   have h0 : σ[0]? = some (.cells (.slice (some ⟨g, 0, none⟩) l.1.length c) (brk (cols - k) (brk j l.1))) := hs 0 (by decide)
   obtain ⟨W, hr, hW⟩ := run_copyO hS (sg h0) (j + k) (j) (cols - k - j) (tailA (some ⟨g, 0, none⟩) c (j + k)) (some ⟨g, j * 16, none⟩) (l.1.length - (j + k)) (c - (j + k)) (cols - k - j) (c - j) (by show min (cols - k - j) (l.1.length - (j + k)) = _; omega) (by rw [brk_length, brk_length]; omega) (by rw [brk_length, brk_length]; omega) (fun hp => ⟨tailA_at (by omega), rfl⟩) 3
   exact rs_run (wanted_none rfl) (exec_copy rfl (by simp only [Act.eval]; exact e65) (by simp only [Act.eval]; exact e74) hr) (sp_set 0 _ (by kernel_rfl) (by simp) (by decide) hl hs (by rfl) hW trivial)
  exact SSteps.nil
 ·intro vs w' hS hv
  have q0 : vs 0 = _ := hv 0 (by decide)
  have q1 : vs 1 = _ := hv 1 (by decide)
  have q2 : vs 2 = _ := hv 2 (by decide)
  have q3 : vs 3 = _ := hv 3 (by decide)
  have q4 : vs 4 = _ := hv 4 (by decide)
  have q5 : vs 5 = _ := hv 5 (by decide)
  have q6 : vs 6 = _ := hv 6 (by decide)
  have q7 : vs 7 = _ := hv 7 (by decide)
  have q8 : vs 8 = _ := hv 8 (by decide)
  have q9 : vs 9 = _ := hv 9 (by decide)
  have q10 : vs 10 = _ := hv 10 (by decide)
  have q11 : vs 11 = _ := hv 11 (by decide)
  have q12 : vs 12 = _ := hv 12 (by decide)
  have q13 : vs 13 = _ := hv 13 (by decide)
  have S2 := Lib.hid hS
  simp only [putL, Act.put, Nat.zero_add, Nat.reduceAdd, List.setIfInBounds_toArray, List.set_cons_succ, List.set_cons_zero, q0, q1, q2, q3, q4, q5, q6, q7, q8, q9, q10, q11, q12, q13]
  clear hS hv q0 q1 q2 q3 q4 q5 q6 q7 q8 q9 q10 q11 q12 q13
  clear S5
  have S6 := S2
  clear S2
  have HCL := Lib.hid (show ((brk (cols - k) (brk j l.1)).take (j + k) ++ (((brk (cols - k) (brk j l.1)).drop j).take (cols - k - j) ++ (brk (cols - k) (brk j l.1)).drop (j + k + (cols - k - j)))).length = cols by simp only [List.length_append, List.length_take, List.length_drop, brk_length]; omega)
  go_upto_region 15 with (fail)
  refine wp_region_stage (w0 := w0) (os := os) (by kernel_rfl) (by kernel_rfl) (by kernel_rfl) [(0, 7, [], fun vs => .cells (.slice (some ⟨g, 0, none⟩) l.1.length c) (wipeC j (j + k - j) q ((brk (cols - k) (brk j l.1)).take (j + k) ++ (((brk (cols - k) (brk j l.1)).drop j).take (cols - k - j) ++ (brk (cols - k) (brk j l.1)).drop (j + k + (cols - k - j))))))] [[], [], [], [], [], [], [3], [0]] [.cells (.slice (some ⟨g, 0, none⟩) l.1.length c) ((brk (cols - k) (brk j l.1)).take (j + k) ++ (((brk (cols - k) (brk j l.1)).drop j).take (cols - k - j) ++ (brk (cols - k) (brk j l.1)).drop (j + k + (cols - k - j)))), .linesx (.slice (some ⟨gr, 0, none⟩) L.length cr) L i (.slice (some ⟨g, 0, none⟩) l.1.length c), .box p 58 #[.int .i64 ↑cols, .slice (some ⟨gr, 0, none⟩) L.length cr], .box b9 54 (pv q)] (fun i u => match i with | 0 => u = .slice (some ⟨g, 0, none⟩) l.1.length c | 1 => u = .int .i64 ↑j | 2 => u = .int .i64 ↑j | 3 => u = .int .i64 ↑k | 4 => u = .int .i64 ↑(j + k) | 5 => u = .slice (some ⟨g, j * 16, none⟩) (j + k - j) (c - j) | 6 => u = .agg (pv q) | 7 => u = .tuple #[] | _ => True) (fun vs => [.cells (.slice (some ⟨g, 0, none⟩) l.1.length c) (wipeC j (j + k - j) q ((brk (cols - k) (brk j l.1)).take (j + k) ++ (((brk (cols - k) (brk j l.1)).drop j).take (cols - k - j) ++ (brk (cols - k) (brk j l.1)).drop (j + k + (cols - k - j))))), .linesx (.slice (some ⟨gr, 0, none⟩) L.length cr) L i (.slice (some ⟨g, 0, none⟩) l.1.length c), .box p 58 #[.int .i64 ↑cols, .slice (some ⟨gr, 0, none⟩) L.length cr], .box b9 54 (pv q)]) (by kernel_rfl) (fun vs => by rfl) S6.out ?_ ?_
  ·apply sc
   ·intro a w' vs σ hS hl hs hk
    have f12 : a.tmps[12]?.getD undef = .slice (some ⟨g, 0, none⟩) l.1.length c := sof hk
    exact rp (.slice (some ⟨g, 0, none⟩) l.1.length c) (by simp [execOp, Act.eval, f12, go_sem]) hl hs hS
   apply sc
   ·intro a w' vs σ hS hl hs hk
    have f2 : a.tmps[2]?.getD undef = .int .i64 ↑j := sof hk
    exact rp (.int .i64 ↑j) (by simp [execOp, Act.eval, f2, go_sem]) hl hs hS
   apply sc
   ·intro a w' vs σ hS hl hs hk
    have f2 : a.tmps[2]?.getD undef = .int .i64 ↑j := sof hk
    exact rp (.int .i64 ↑j) (by simp [execOp, Act.eval, f2, go_sem]) hl hs hS
   apply sc
   ·intro a w' vs σ hS hl hs hk
    have f14 : a.tmps[14]?.getD undef = .int .i64 ↑k := sof hk
    exact rp (.int .i64 ↑k) (by simp [execOp, Act.eval, f14, go_sem]) hl hs hS
   apply sc
   ·intro a w' vs σ hS hl hs hk
    have f78 : a.tmps[78]?.getD undef = .int .i64 ↑j := svf hk 2
    have f79 : a.tmps[79]?.getD undef = .int .i64 ↑k := svf hk 3
    exact rp (.int .i64 ↑(j + k)) (by simp [execOp, Act.eval, f78, f79, go_sem, HW1.out]) hl hs hS
   apply sc
   ·intro a w' vs σ hS hl hs hk
    have f76 : a.tmps[76]?.getD undef = .slice (some ⟨g, 0, none⟩) l.1.length c := svf hk 0
    have f77 : a.tmps[77]?.getD undef = .int .i64 ↑j := svf hk 1
    have f80 : a.tmps[80]?.getD undef = .int .i64 ↑(j + k) := svf hk 4
    exact rs_run (wanted_none rfl) (exec_slice rfl (by simp [Act.eval, f76, f77, f80]) (by simp [Act.eval, f76, f77, f80]; try rfl) (by simp [Act.eval, f76, f77, f80]; try rfl) (run_mid w' g l.1.length c j (j + k) (by omega) (by omega) (by omega) (by omega) (by omega))) (sp_same (by kernel_rfl) hl hs hS (show (.slice (some ⟨g, j * 16, none⟩) (j + k - j) (c - j) : Value) = _ from rfl))
   apply sc
   ·intro a w' vs σ hS hl hs hk
    have f9 : a.tmps[9]?.getD undef = .pointer (some ⟨b9, 0, none⟩) := sof hk
    have hx := (hS.box (sg (hs 3 (by decide)))).penAt
    exact rp (.agg (pv q)) (by simp [execOp, Act.eval, f9, go_sem, hx]) hl hs hS
   apply sc
   ·intro a w' vs σ hS hl hs hk
    have e81 : a.tmps.getD 81 undef = .slice (some ⟨g, j * 16, none⟩) (j + k - j) (c - j) := svv hk 5
    have e82 : a.tmps.getD 82 undef = .agg (pv q) := svv hk 6
    have h0 : σ[0]? = some (.cells (.slice (some ⟨g, 0, none⟩) l.1.length c) ((brk (cols - k) (brk j l.1)).take (j + k) ++ (((brk (cols - k) (brk j l.1)).drop j).take (cols - k - j) ++ (brk (cols - k) (brk j l.1)).drop (j + k + (cols - k - j))))) := hs 0 (by decide)
    exact ro_call (f := 89) (wanted_none rfl) rfl (by simp only [List.map_toArray, List.map_cons, List.map_nil, Act.eval, e81, e82] <;> rfl) (fun _ _ => by kernel_rfl) ((front_call hS (sg h0) (fun os1 h => wipe_front g l.1.length c (j) (j + k - j) (c - j) ((brk (cols - k) (brk j l.1)).take (j + k) ++ (((brk (cols - k) (brk j l.1)).drop j).take (cols - k - j) ++ (brk (cols - k) (brk j l.1)).drop (j + k + (cols - k - j)))) q w0 w' os1 h (by have := HCL.out; omega) (by omega) (by have := HCL.out; omega))).mono fun e w2 ⟨h1, h2⟩ => ⟨_, h1, sp_set 0 _ (by kernel_rfl) (by simp) (by decide) hl hs (by rfl) h2 rfl, trivial⟩)
   exact SSteps.nil
  ·intro vs w' hS hv
   have q0 : vs 0 = _ := hv 0 (by decide)
   have q1 : vs 1 = _ := hv 1 (by decide)
   have q2 : vs 2 = _ := hv 2 (by decide)
   have q3 : vs 3 = _ := hv 3 (by decide)
   have q4 : vs 4 = _ := hv 4 (by decide)
   have q5 : vs 5 = _ := hv 5 (by decide)
   have q6 : vs 6 = _ := hv 6 (by decide)
   have q7 : vs 7 = _ := hv 7 (by decide)
   have S2 := Lib.hid hS
   simp only [putL, Act.put, Nat.zero_add, Nat.reduceAdd, List.setIfInBounds_toArray, List.set_cons_succ, List.set_cons_zero, q0, q1, q2, q3, q4, q5, q6, q7]
   clear hS hv q0 q1 q2 q3 q4 q5 q6 q7
   have HF := (show Objs w0 w' (_ :: _ :: _ :: _ :: os) from S2.out).closeAt HL.out
   rw [HP.out] at HF
   go_wp2_with fail
   go_ret
   exact ⟨rfl, HF.drop2⟩
set_option maxRecDepth 100000 in
set_option maxHeartbeats 1000000 in
theorem Shift_out {row col n : Int} (q : Pen) (hT : Tabs w0) (hS : Objs w0 w (.grid p 58 cols L :: os)) (hc : 0 < cols) (hcm : cols ≤ 1000) (hno : ¬ ((0 ≤ row ∧ row < L.length) ∧ 0 ≤ col ∧ col < cols)) :
  Calls Tryd.prog 52 #[.pointer (some ⟨p, 0, none⟩), .int .i64 row, .int .i64 col, .int .i64 n, .agg (pv q)] w fun e w' => e = .returned (.int .i64 3) ∧ Objs w0 w' (.grid p 58 cols L :: os) := by
 have S := Lib.hid hS
 have HT := Lib.hid hT
 have HE := Lib.hid (show atE row col cols L = 3 by unfold atE; rw [if_neg hno])
 clear hno
 clear hS hT
 go_enter Tryd.func52, Tryd.ntmps52
 go_wp2_with fail
 refine (at_any row col S.out.alloc1 (k := 1) rfl hc).mono ?_
 rw [HE.out]
 rintro e w1 ⟨rfl, hS⟩
 have S1 := Lib.hid hS
 obtain ⟨A0, c0, hB0, -, -⟩ := hS.gridRd (k := 1) rfl
 obtain ⟨hx0, hf0, hz0⟩ := hB0.facts
 obtain ⟨hx9, hf9, hz9, hp9⟩ := (hS.box (k := 0) rfl).pbox
 clear hS S hB0
 generalize w.heap.size = b9 at S1 hx9 hf9 hz9 hp9 ⊢
 go_wp2_with fail
 go_ret
 exact ⟨rfl, S1.out.tail⟩
set_option maxRecDepth 100000 in
set_option maxHeartbeats 1000000 in
theorem Shift_pen {row col n : Int} (q : Pen) (hT : Tabs w0) (hS : Objs w0 w (.grid p 58 cols L :: os)) (hc : 0 < cols) (hcm : cols ≤ 1000) (hin : (0 ≤ row ∧ row < L.length) ∧ 0 ≤ col ∧ col < cols) (hq : q.ok = false) :
  Calls Tryd.prog 52 #[.pointer (some ⟨p, 0, none⟩), .int .i64 row, .int .i64 col, .int .i64 n, .agg (pv q)] w fun e w' => e = .returned (.int .i64 2) ∧ Objs w0 w' (.grid p 58 cols L :: os) := by
 have S := Lib.hid hS
 have HT := Lib.hid hT
 have HE := Lib.hid (show atE row col cols L = 0 by unfold atE; rw [if_pos hin])
 clear hin
 have HQ := Lib.hid hq
 clear hq
 clear hS hT
 go_enter Tryd.func52, Tryd.ntmps52
 go_wp2_with fail
 refine (at_any row col S.out.alloc1 (k := 1) rfl hc).mono ?_
 rw [HE.out]
 rintro e w1 ⟨rfl, hS⟩
 have S1 := Lib.hid hS
 obtain ⟨A0, c0, hB0, -, -⟩ := hS.gridRd (k := 1) rfl
 obtain ⟨hx0, hf0, hz0⟩ := hB0.facts
 obtain ⟨hx9, hf9, hz9, hp9⟩ := (hS.box (k := 0) rfl).pbox
 clear hS S hB0
 generalize w.heap.size = b9 at S1 hx9 hf9 hz9 hp9 ⊢
 go_wp2_with fail
 refine (inked_is HQ.out HT.out S1.out).mono ?_
 rintro e w2 ⟨rfl, hS⟩
 have S2 := Lib.hid hS
 clear hS
 go_wp2_with fail
 go_ret
 exact ⟨rfl, S2.out.tail⟩
set_option maxRecDepth 100000 in
set_option maxHeartbeats 1000000 in
theorem Shift_none {row col n : Int} (q : Pen) (hT : Tabs w0) (hS : Objs w0 w (.grid p 58 cols L :: os)) (hc : 0 < cols) (hcm : cols ≤ 1000) (hin : (0 ≤ row ∧ row < L.length) ∧ 0 ≤ col ∧ col < cols) (hq : q.ok = true) (hn : n = 0) :
  Calls Tryd.prog 52 #[.pointer (some ⟨p, 0, none⟩), .int .i64 row, .int .i64 col, .int .i64 n, .agg (pv q)] w fun e w' => e = .returned (.int .i64 0) ∧ Objs w0 w' (.grid p 58 cols L :: os) := by
 have S := Lib.hid hS
 have HT := Lib.hid hT
 have HE := Lib.hid (show atE row col cols L = 0 by unfold atE; rw [if_pos hin])
 clear hin
 have HQ := Lib.hid hq
 subst hn
 clear hq
 clear hS hT
 go_enter Tryd.func52, Tryd.ntmps52
 go_wp2_with fail
 refine (at_any row col S.out.alloc1 (k := 1) rfl hc).mono ?_
 rw [HE.out]
 rintro e w1 ⟨rfl, hS⟩
 have S1 := Lib.hid hS
 obtain ⟨A0, c0, hB0, -, -⟩ := hS.gridRd (k := 1) rfl
 obtain ⟨hx0, hf0, hz0⟩ := hB0.facts
 obtain ⟨hx9, hf9, hz9, hp9⟩ := (hS.box (k := 0) rfl).pbox
 clear hS S hB0
 generalize w.heap.size = b9 at S1 hx9 hf9 hz9 hp9 ⊢
 go_wp2_with fail
 refine (inked_is HQ.out HT.out S1.out).mono ?_
 rintro e w2 ⟨rfl, hS⟩
 have S2 := Lib.hid hS
 clear hS
 go_wp2_with fail
 go_ret
 exact ⟨rfl, S2.out.tail⟩
set_option maxRecDepth 100000 in
set_option maxHeartbeats 4000000 in
theorem Shift_left1 {i j k : Nat} {l : Ln} (q : Pen) (hT : Tabs w0) (hS : Objs w0 w (.grid p 58 cols L :: os)) (hc : 0 < cols) (hcm : cols ≤ 1000) (hl : L[i]? = some l) (hrow : l.1.length = cols) (hq : q.ok = true) (hj : j < cols) (hk1 : 1 ≤ k) (hk2 : j + k < cols) :
  Calls Tryd.prog 52 #[.pointer (some ⟨p, 0, none⟩), .int .i64 i, .int .i64 j, .int .i64 (-(k : Int)), .agg (pv q)] w fun e w' => e = .returned (.int .i64 0) ∧ Objs w0 w' (.grid p 58 cols (L.set i (shiftL j k q l.1, l.2)) :: os) := by
 have S := Lib.hid hS
 have hi : i < L.length := (List.getElem?_eq_some_iff.1 hl).1
 have HL := Lib.hid hl
 have HT := Lib.hid hT
 have HQ := Lib.hid hq
 have HROW := Lib.hid hrow
 have hlr : l.1.length ≤ 1000 := by omega
 have hlr2 : cols ≤ l.1.length := by omega
 have hlr3 : l.1.length ≤ cols := by omega
 have HE := Lib.hid (show atE i j cols L = 0 by unfold atE; rw [if_pos ⟨⟨by omega, by omega⟩, by omega, by omega⟩])
 have hkj : j + k ≤ cols := by omega
 have hk1 : 1 ≤ k := by omega
 have hn0 : ((-(k : Int)) == 0) = false := by simp; omega
 have hng : ¬ (0 < -(k : Int)) := by omega
 have hcmp : -((cols : Int) - j) < -(k : Int) := by omega
 have HP := Lib.hid (show wipeC (cols - k) (l.1.length - (cols - k)) q ((brk (j + k) (brk j l.1)).take j ++ (((brk (j + k) (brk j l.1)).drop (j + k)).take (cols - (j + k)) ++ (brk (j + k) (brk j l.1)).drop (j + (cols - (j + k))))) = shiftL j k q l.1 by
  have hb : (brk (j + k) (brk j l.1)).length = cols := by rw [brk_length, brk_length, hrow]
  have h := shiftL_is (j := j) (k := k) (q := q) (l := brk (j + k) (brk j l.1)) (by omega)
  rw [hb] at h
  rw [show l.1.length - (cols - k) = k by omega, h]
  rfl)
 clear hS hT hl hrow hq
 go_enter Tryd.func52, Tryd.ntmps52
 go_wp2_with fail
 refine (at_any i j S.out.alloc1 (k := 1) rfl hc).mono ?_
 rw [HE.out]
 rintro e w1 ⟨rfl, hS⟩
 have S1 := Lib.hid hS
 obtain ⟨A0, c0, hB0, -, -⟩ := hS.gridRd (k := 1) rfl
 obtain ⟨hx0, hf0, hz0⟩ := hB0.facts
 obtain ⟨hx9, hf9, hz9, hp9⟩ := (hS.box (k := 0) rfl).pbox
 clear hS S hB0
 generalize w.heap.size = b9 at S1 hx9 hf9 hz9 hp9 ⊢
 go_wp2_with fail
 refine (inked_is HQ.out HT.out S1.out).mono ?_
 rintro e w2 ⟨rfl, hS⟩
 have S2 := Lib.hid hS
 clear hS hx0 hf0 hz0 hx9 hf9 hz9 hp9
 obtain ⟨v, b, hS3⟩ := S2.out.swap.openAt HL.out
 obtain ⟨A, c, rfl, hrd⟩ := hS3.cellsRd (k := 0) rfl
 have hnc : l.1.length ≤ c := hrd.1
 obtain ⟨g, rfl, -, -, -, -⟩ := (hS3.own (k := 0) rfl).head (by omega)
 obtain ⟨gr, cr, rfl, h1, h2, h3, h4, h5, h6, h7⟩ := hS3.linesxRd (k := 1) rfl
 obtain ⟨hx2, hf2, hz2⟩ := (hS3.box (k := 2) rfl).facts
 have hlen2 : L.length ≤ 9223372036854775807 := by unfold maxLen at h2; omega
 have S3 := Lib.hid hS3
 clear hS3 h1 h2 h6 hrd
 go_wp2_with fail
 refine (split_at (c := j) S3.out rfl rfl (by omega) (by omega)).mono ?_
 rintro e w4 ⟨rfl, hS4⟩
 have S4 := Lib.hid hS4
 obtain ⟨hx2, hf2, hz2⟩ := (hS4.box (k := 2) rfl).facts
 clear hS4 h4 h5 h7
 go_wp2_with fail
 refine (split_at (c := j + k) S4.out (by rw [brk_length]) (by omega) (by rw [brk_length]; omega) (by omega)).mono ?_
 rintro e w5 ⟨rfl, hS5⟩
 have S5 := Lib.hid hS5
 have HW1 := Lib.hid (show IntKind.i64.wrap ((j : Int) + k) = ((j + k : Nat) : Int) by rw [IntWalk.i64_in _ (by omega)]; omega)
 have HW2 := Lib.hid (show IntKind.i64.wrap ((cols : Int) - k) = ((cols - k : Nat) : Int) by rw [IntWalk.i64_in _ (by omega)]; omega)
 clear hS5 hx2 hf2 hz2 hn0 hng hcmp
 go_upto_region 21 with (fail)
 refine wp_region_stage (w0 := w0) (os := os) (by kernel_rfl) (by kernel_rfl) (by kernel_rfl) [(0, 8, [], fun vs => .cells (.slice (some ⟨g, 0, none⟩) l.1.length c) ((brk (j + k) (brk j l.1)).take j ++ (((brk (j + k) (brk j l.1)).drop (j + k)).take (cols - (j + k)) ++ (brk (j + k) (brk j l.1)).drop (j + (cols - (j + k))))))] [[], [], [], [], [], [], [], [], [0]] [.cells (.slice (some ⟨g, 0, none⟩) l.1.length c) (brk (j + k) (brk j l.1)), .linesx (.slice (some ⟨gr, 0, none⟩) L.length cr) L i (.slice (some ⟨g, 0, none⟩) l.1.length c), .box p 58 #[.int .i64 ↑cols, .slice (some ⟨gr, 0, none⟩) L.length cr], .box b9 54 (pv q)] (fun i u => match i with | 0 => u = .slice (some ⟨g, 0, none⟩) l.1.length c | 1 => u = .int .i64 ↑j | 2 => u = .slice (tailA (some ⟨g, 0, none⟩) c j) (l.1.length - j) (c - j) | 3 => u = .slice (some ⟨g, 0, none⟩) l.1.length c | 4 => u = .int .i64 ↑j | 5 => u = .int .i64 ↑k | 6 => u = .int .i64 ↑(j + k) | 7 => u = .slice (tailA (some ⟨g, 0, none⟩) c (j + k)) (l.1.length - (j + k)) (c - (j + k)) | 8 => True | _ => True) (fun vs => [.cells (.slice (some ⟨g, 0, none⟩) l.1.length c) ((brk (j + k) (brk j l.1)).take j ++ (((brk (j + k) (brk j l.1)).drop (j + k)).take (cols - (j + k)) ++ (brk (j + k) (brk j l.1)).drop (j + (cols - (j + k))))), .linesx (.slice (some ⟨gr, 0, none⟩) L.length cr) L i (.slice (some ⟨g, 0, none⟩) l.1.length c), .box p 58 #[.int .i64 ↑cols, .slice (some ⟨gr, 0, none⟩) L.length cr], .box b9 54 (pv q)]) (by kernel_rfl) (fun vs => by rfl) S5.out ?_ ?_
 ·apply sc
  ·intro a w' vs σ hS hl hs hk
   have f12 : a.tmps[12]?.getD undef = .slice (some ⟨g, 0, none⟩) l.1.length c := sof hk
   exact rp (.slice (some ⟨g, 0, none⟩) l.1.length c) (by simp [execOp, Act.eval, f12, go_sem]) hl hs hS
  apply sc
  ·intro a w' vs σ hS hl hs hk
   have f2 : a.tmps[2]?.getD undef = .int .i64 ↑j := sof hk
   exact rp (.int .i64 ↑j) (by simp [execOp, Act.eval, f2, go_sem]) hl hs hS
  apply sc
  ·intro a w' vs σ hS hl hs hk
   have f96 : a.tmps[96]?.getD undef = .slice (some ⟨g, 0, none⟩) l.1.length c := svf hk 0
   have f97 : a.tmps[97]?.getD undef = .int .i64 ↑j := svf hk 1
   exact rs_run (wanted_none rfl) (exec_slice rfl (by simp [Act.eval, f96, f97]) (by simp [Act.eval, f96, f97]; try rfl) (by simp [Act.eval, f96, f97]; try rfl) (run_from w' (some ⟨g, 0, none⟩) l.1.length c j (by omega) (by omega) (fun h => by cases h) (by omega))) (sp_same (by kernel_rfl) hl hs hS (show (.slice (tailA (some ⟨g, 0, none⟩) c j) (l.1.length - j) (c - j) : Value) = _ from rfl))
  apply sc
  ·intro a w' vs σ hS hl hs hk
   have f12 : a.tmps[12]?.getD undef = .slice (some ⟨g, 0, none⟩) l.1.length c := sof hk
   exact rp (.slice (some ⟨g, 0, none⟩) l.1.length c) (by simp [execOp, Act.eval, f12, go_sem]) hl hs hS
  apply sc
  ·intro a w' vs σ hS hl hs hk
   have f2 : a.tmps[2]?.getD undef = .int .i64 ↑j := sof hk
   exact rp (.int .i64 ↑j) (by simp [execOp, Act.eval, f2, go_sem]) hl hs hS
  apply sc
  ·intro a w' vs σ hS hl hs hk
   have f15 : a.tmps[15]?.getD undef = .int .i64 ↑k := sof hk
   exact rp (.int .i64 ↑k) (by simp [execOp, Act.eval, f15, go_sem]) hl hs hS
  apply sc
  ·intro a w' vs σ hS hl hs hk
   have f100 : a.tmps[100]?.getD undef = .int .i64 ↑j := svf hk 4
   have f101 : a.tmps[101]?.getD undef = .int .i64 ↑k := svf hk 5
   exact rp (.int .i64 ↑(j + k)) (by simp [execOp, Act.eval, f100, f101, go_sem, HW1.out]) hl hs hS
  apply sc
  ·intro a w' vs σ hS hl hs hk
   have f99 : a.tmps[99]?.getD undef = .slice (some ⟨g, 0, none⟩) l.1.length c := svf hk 3
   have f102 : a.tmps[102]?.getD undef = .int .i64 ↑(j + k) := svf hk 6
   exact rs_run (wanted_none rfl) (exec_slice rfl (by simp [Act.eval, f99, f102]) (by simp [Act.eval, f99, f102]; try rfl) (by simp [Act.eval, f99, f102]; try rfl) (run_from w' (some ⟨g, 0, none⟩) l.1.length c (j + k) (by omega) (by omega) (fun h => by cases h) (by omega))) (sp_same (by kernel_rfl) hl hs hS (show (.slice (tailA (some ⟨g, 0, none⟩) c (j + k)) (l.1.length - (j + k)) (c - (j + k)) : Value) = _ from rfl))
  apply sc
  ·intro a w' vs σ hS hl hs hk
   have e98 : a.tmps.getD 98 undef = .slice (tailA (some ⟨g, 0, none⟩) c j) (l.1.length - j) (c - j) := svv hk 2
   have e103 : a.tmps.getD 103 undef = .slice (tailA (some ⟨g, 0, none⟩) c (j + k)) (l.1.length - (j + k)) (c - (j + k)) := svv hk 7
   have h0 : σ[0]? = some (.cells (.slice (some ⟨g, 0, none⟩) l.1.length c) (brk (j + k) (brk j l.1))) := hs 0 (by decide)
   obtain ⟨W, hr, hW⟩ := run_copyO hS (sg h0) (j) (j + k) (cols - (j + k)) (tailA (some ⟨g, 0, none⟩) c j) (tailA (some ⟨g, 0, none⟩) c (j + k)) (l.1.length - j) (c - j) (l.1.length - (j + k)) (c - (j + k)) (by show min (l.1.length - (j + k)) (l.1.length - j) = _; omega) (by rw [brk_length, brk_length]; omega) (by rw [brk_length, brk_length]; omega) (fun hp => ⟨tailA_at (by omega), tailA_at (by omega)⟩) 3
   exact rs_run (wanted_none rfl) (exec_copy rfl (by simp only [Act.eval]; exact e98) (by simp only [Act.eval]; exact e103) hr) (sp_set 0 _ (by kernel_rfl) (by simp) (by decide) hl hs (by rfl) hW trivial)
  exact SSteps.nil
 ·intro vs w' hS hv
  have q0 : vs 0 = _ := hv 0 (by decide)
  have q1 : vs 1 = _ := hv 1 (by decide)
  have q2 : vs 2 = _ := hv 2 (by decide)
  have q3 : vs 3 = _ := hv 3 (by decide)
  have q4 : vs 4 = _ := hv 4 (by decide)
  have q5 : vs 5 = _ := hv 5 (by decide)
  have q6 : vs 6 = _ := hv 6 (by decide)
  have q7 : vs 7 = _ := hv 7 (by decide)
  have S2 := Lib.hid hS
  simp only [putL, Act.put, Nat.zero_add, Nat.reduceAdd, List.setIfInBounds_toArray, List.set_cons_succ, List.set_cons_zero, q0, q1, q2, q3, q4, q5, q6, q7]
  clear hS hv q0 q1 q2 q3 q4 q5 q6 q7
  clear S5
  have S6 := S2
  clear S2
  have HCL := Lib.hid (show ((brk (j + k) (brk j l.1)).take j ++ (((brk (j + k) (brk j l.1)).drop (j + k)).take (cols - (j + k)) ++ (brk (j + k) (brk j l.1)).drop (j + (cols - (j + k))))).length = cols by simp only [List.length_append, List.length_take, List.length_drop, brk_length]; omega)
  go_upto_region 22 with (fail)
  refine wp_region_stage (w0 := w0) (os := os) (by kernel_rfl) (by kernel_rfl) (by kernel_rfl) [(0, 9, [], fun vs => .cells (.slice (some ⟨g, 0, none⟩) l.1.length c) (wipeC (cols - k) (l.1.length - (cols - k)) q ((brk (j + k) (brk j l.1)).take j ++ (((brk (j + k) (brk j l.1)).drop (j + k)).take (cols - (j + k)) ++ (brk (j + k) (brk j l.1)).drop (j + (cols - (j + k)))))))] [[], [], [], [], [2], [], [], [], [3], [0]] [.cells (.slice (some ⟨g, 0, none⟩) l.1.length c) ((brk (j + k) (brk j l.1)).take j ++ (((brk (j + k) (brk j l.1)).drop (j + k)).take (cols - (j + k)) ++ (brk (j + k) (brk j l.1)).drop (j + (cols - (j + k))))), .linesx (.slice (some ⟨gr, 0, none⟩) L.length cr) L i (.slice (some ⟨g, 0, none⟩) l.1.length c), .box p 58 #[.int .i64 ↑cols, .slice (some ⟨gr, 0, none⟩) L.length cr], .box b9 54 (pv q)] (fun i u => match i with | 0 => u = .slice (some ⟨g, 0, none⟩) l.1.length c | 1 => u = .pointer (some ⟨p, 0, none⟩) | 2 => u = .pointer (some ⟨p, 0, none⟩) | 3 => u = .pointer (some ⟨p, 0, none⟩) | 4 => u = .int .i64 ↑cols | 5 => u = .int .i64 ↑k | 6 => u = .int .i64 ↑(cols - k) | 7 => u = .slice (tailA (some ⟨g, 0, none⟩) c (cols - k)) (l.1.length - (cols - k)) (c - (cols - k)) | 8 => u = .agg (pv q) | 9 => u = .tuple #[] | _ => True) (fun vs => [.cells (.slice (some ⟨g, 0, none⟩) l.1.length c) (wipeC (cols - k) (l.1.length - (cols - k)) q ((brk (j + k) (brk j l.1)).take j ++ (((brk (j + k) (brk j l.1)).drop (j + k)).take (cols - (j + k)) ++ (brk (j + k) (brk j l.1)).drop (j + (cols - (j + k)))))), .linesx (.slice (some ⟨gr, 0, none⟩) L.length cr) L i (.slice (some ⟨g, 0, none⟩) l.1.length c), .box p 58 #[.int .i64 ↑cols, .slice (some ⟨gr, 0, none⟩) L.length cr], .box b9 54 (pv q)]) (by kernel_rfl) (fun vs => by rfl) S6.out ?_ ?_
  ·apply sc
   ·intro a w' vs σ hS hl hs hk
    have f12 : a.tmps[12]?.getD undef = .slice (some ⟨g, 0, none⟩) l.1.length c := sof hk
    exact rp (.slice (some ⟨g, 0, none⟩) l.1.length c) (by simp [execOp, Act.eval, f12, go_sem]) hl hs hS
   apply sc
   ·intro a w' vs σ hS hl hs hk
    have f0 : a.tmps[0]?.getD undef = .pointer (some ⟨p, 0, none⟩) := sof hk
    exact rp (pt p 0) (by simp [execOp, Act.eval, f0, go_sem]) hl hs hS
   apply sc
   ·intro a w' vs σ hS hl hs hk
    have f106 : a.tmps[106]?.getD undef = .pointer (some ⟨p, 0, none⟩) := svf hk 1
    exact rp (pt p 0) (by simp [execOp, Act.eval, f106, go_sem]) hl hs hS
   apply sc
   ·intro a w' vs σ hS hl hs hk
    have f107 : a.tmps[107]?.getD undef = .pointer (some ⟨p, 0, none⟩) := svf hk 2
    exact rp (pt p 0) (by simp [execOp, Act.eval, f107, go_sem]) hl hs hS
   apply sc
   ·intro a w' vs σ hS hl hs hk
    have f108 : a.tmps[108]?.getD undef = .pointer (some ⟨p, 0, none⟩) := svf hk 3
    have hx := (hS.box (sg (hs 2 (by decide)))).cell
    exact rp (.int .i64 ↑cols) (by simp [execOp, Act.eval, f108, go_sem, hx]) hl hs hS
   apply sc
   ·intro a w' vs σ hS hl hs hk
    have f15 : a.tmps[15]?.getD undef = .int .i64 ↑k := sof hk
    exact rp (.int .i64 ↑k) (by simp [execOp, Act.eval, f15, go_sem]) hl hs hS
   apply sc
   ·intro a w' vs σ hS hl hs hk
    have f109 : a.tmps[109]?.getD undef = .int .i64 ↑cols := svf hk 4
    have f110 : a.tmps[110]?.getD undef = .int .i64 ↑k := svf hk 5
    exact rp (.int .i64 ↑(cols - k)) (by simp [execOp, Act.eval, f109, f110, go_sem, HW2.out]) hl hs hS
   apply sc
   ·intro a w' vs σ hS hl hs hk
    have f105 : a.tmps[105]?.getD undef = .slice (some ⟨g, 0, none⟩) l.1.length c := svf hk 0
    have f111 : a.tmps[111]?.getD undef = .int .i64 ↑(cols - k) := svf hk 6
    exact rs_run (wanted_none rfl) (exec_slice rfl (by simp [Act.eval, f105, f111]) (by simp [Act.eval, f105, f111]; try rfl) (by simp [Act.eval, f105, f111]; try rfl) (run_from w' (some ⟨g, 0, none⟩) l.1.length c (cols - k) (by omega) (by omega) (fun h => by cases h) (by omega))) (sp_same (by kernel_rfl) hl hs hS (show (.slice (tailA (some ⟨g, 0, none⟩) c (cols - k)) (l.1.length - (cols - k)) (c - (cols - k)) : Value) = _ from rfl))
   apply sc
   ·intro a w' vs σ hS hl hs hk
    have f9 : a.tmps[9]?.getD undef = .pointer (some ⟨b9, 0, none⟩) := sof hk
    have hx := (hS.box (sg (hs 3 (by decide)))).penAt
    exact rp (.agg (pv q)) (by simp [execOp, Act.eval, f9, go_sem, hx]) hl hs hS
   apply sc
   ·intro a w' vs σ hS hl hs hk
    have e112 : a.tmps.getD 112 undef = .slice (tailA (some ⟨g, 0, none⟩) c (cols - k)) (l.1.length - (cols - k)) (c - (cols - k)) := svv hk 7
    have e113 : a.tmps.getD 113 undef = .agg (pv q) := svv hk 8
    have h0 : σ[0]? = some (.cells (.slice (some ⟨g, 0, none⟩) l.1.length c) ((brk (j + k) (brk j l.1)).take j ++ (((brk (j + k) (brk j l.1)).drop (j + k)).take (cols - (j + k)) ++ (brk (j + k) (brk j l.1)).drop (j + (cols - (j + k)))))) := hs 0 (by decide)
    rw [tailA_at (by omega)] at e112
    exact ro_call (f := 89) (wanted_none rfl) rfl (by simp only [List.map_toArray, List.map_cons, List.map_nil, Act.eval, e112, e113] <;> rfl) (fun _ _ => by kernel_rfl) ((front_call hS (sg h0) (fun os1 h => wipe_front g l.1.length c (cols - k) (l.1.length - (cols - k)) (c - (cols - k)) ((brk (j + k) (brk j l.1)).take j ++ (((brk (j + k) (brk j l.1)).drop (j + k)).take (cols - (j + k)) ++ (brk (j + k) (brk j l.1)).drop (j + (cols - (j + k))))) q w0 w' os1 h (by have := HCL.out; omega) (by omega) (by have := HCL.out; omega))).mono fun e w2 ⟨h1, h2⟩ => ⟨_, h1, sp_set 0 _ (by kernel_rfl) (by simp) (by decide) hl hs (by rfl) h2 rfl, trivial⟩)
   exact SSteps.nil
  ·intro vs w' hS hv
   have q0 : vs 0 = _ := hv 0 (by decide)
   have q1 : vs 1 = _ := hv 1 (by decide)
   have q2 : vs 2 = _ := hv 2 (by decide)
   have q3 : vs 3 = _ := hv 3 (by decide)
   have q4 : vs 4 = _ := hv 4 (by decide)
   have q5 : vs 5 = _ := hv 5 (by decide)
   have q6 : vs 6 = _ := hv 6 (by decide)
   have q7 : vs 7 = _ := hv 7 (by decide)
   have q8 : vs 8 = _ := hv 8 (by decide)
   have q9 : vs 9 = _ := hv 9 (by decide)
   have S2 := Lib.hid hS
   simp only [putL, Act.put, Nat.zero_add, Nat.reduceAdd, List.setIfInBounds_toArray, List.set_cons_succ, List.set_cons_zero, q0, q1, q2, q3, q4, q5, q6, q7, q8, q9]
   clear hS hv q0 q1 q2 q3 q4 q5 q6 q7 q8 q9
   have HF := (show Objs w0 w' (_ :: _ :: _ :: _ :: os) from S2.out).closeAt HL.out
   rw [HP.out] at HF
   go_wp2_with fail
   go_ret
   exact ⟨rfl, HF.drop2⟩
set_option maxRecDepth 100000 in
set_option maxHeartbeats 4000000 in
theorem Shift_left2 {i j k : Nat} {l : Ln} (q : Pen) (hT : Tabs w0) (hS : Objs w0 w (.grid p 58 cols L :: os)) (hc : 0 < cols) (hcm : cols ≤ 1000) (hl : L[i]? = some l) (hrow : l.1.length = cols) (hq : q.ok = true) (n : Int) (hj : j < cols) (hk3 : j + k = cols) (hn : n ≤ -(k : Int)) (hn2 : -9223372036854775808 ≤ n) :
  Calls Tryd.prog 52 #[.pointer (some ⟨p, 0, none⟩), .int .i64 i, .int .i64 j, .int .i64 n, .agg (pv q)] w fun e w' => e = .returned (.int .i64 0) ∧ Objs w0 w' (.grid p 58 cols (L.set i (shiftL j k q l.1, l.2)) :: os) := by
 have S := Lib.hid hS
 have hi : i < L.length := (List.getElem?_eq_some_iff.1 hl).1
 have HL := Lib.hid hl
 have HT := Lib.hid hT
 have HQ := Lib.hid hq
 have HROW := Lib.hid hrow
 have hlr : l.1.length ≤ 1000 := by omega
 have hlr2 : cols ≤ l.1.length := by omega
 have hlr3 : l.1.length ≤ cols := by omega
 have HE := Lib.hid (show atE i j cols L = 0 by unfold atE; rw [if_pos ⟨⟨by omega, by omega⟩, by omega, by omega⟩])
 have hkj : j + k ≤ cols := by omega
 have hk1 : 1 ≤ k := by omega
 have hn0 : (n == 0) = false := by simp; omega
 have hng : ¬ (0 < n) := by omega
 have hcmp : ¬ (-((cols : Int) - j) < n) := by omega
 have hck : (cols : Int) - j = k := by omega
 have HP := Lib.hid (show wipeC (cols - k) (l.1.length - (cols - k)) q ((brk (j + k) (brk j l.1)).take j ++ (((brk (j + k) (brk j l.1)).drop (j + k)).take (cols - (j + k)) ++ (brk (j + k) (brk j l.1)).drop (j + (cols - (j + k))))) = shiftL j k q l.1 by
  have hb : (brk (j + k) (brk j l.1)).length = cols := by rw [brk_length, brk_length, hrow]
  have h := shiftL_is (j := j) (k := k) (q := q) (l := brk (j + k) (brk j l.1)) (by omega)
  rw [hb] at h
  rw [show l.1.length - (cols - k) = k by omega, h]
  rfl)
 clear hS hT hl hrow hq
 go_enter Tryd.func52, Tryd.ntmps52
 go_wp2_with fail
 refine (at_any i j S.out.alloc1 (k := 1) rfl hc).mono ?_
 rw [HE.out]
 rintro e w1 ⟨rfl, hS⟩
 have S1 := Lib.hid hS
 obtain ⟨A0, c0, hB0, -, -⟩ := hS.gridRd (k := 1) rfl
 obtain ⟨hx0, hf0, hz0⟩ := hB0.facts
 obtain ⟨hx9, hf9, hz9, hp9⟩ := (hS.box (k := 0) rfl).pbox
 clear hS S hB0
 generalize w.heap.size = b9 at S1 hx9 hf9 hz9 hp9 ⊢
 go_wp2_with fail
 refine (inked_is HQ.out HT.out S1.out).mono ?_
 rintro e w2 ⟨rfl, hS⟩
 have S2 := Lib.hid hS
 clear hS hx0 hf0 hz0 hx9 hf9 hz9 hp9
 obtain ⟨v, b, hS3⟩ := S2.out.swap.openAt HL.out
 obtain ⟨A, c, rfl, hrd⟩ := hS3.cellsRd (k := 0) rfl
 have hnc : l.1.length ≤ c := hrd.1
 obtain ⟨g, rfl, -, -, -, -⟩ := (hS3.own (k := 0) rfl).head (by omega)
 obtain ⟨gr, cr, rfl, h1, h2, h3, h4, h5, h6, h7⟩ := hS3.linesxRd (k := 1) rfl
 obtain ⟨hx2, hf2, hz2⟩ := (hS3.box (k := 2) rfl).facts
 have hlen2 : L.length ≤ 9223372036854775807 := by unfold maxLen at h2; omega
 have S3 := Lib.hid hS3
 clear hS3 h1 h2 h6 hrd
 go_wp2_with fail
 refine (split_at (c := j) S3.out rfl rfl (by omega) (by omega)).mono ?_
 rintro e w4 ⟨rfl, hS4⟩
 have S4 := Lib.hid hS4
 obtain ⟨hx2, hf2, hz2⟩ := (hS4.box (k := 2) rfl).facts
 clear hS4 h4 h5 h7
 go_wp2_with fail
 refine (split_at (c := j + k) S4.out (by rw [brk_length]) (by omega) (by rw [brk_length]; omega) (by omega)).mono ?_
 rintro e w5 ⟨rfl, hS5⟩
 have S5 := Lib.hid hS5
 have HW1 := Lib.hid (show IntKind.i64.wrap ((j : Int) + k) = ((j + k : Nat) : Int) by rw [IntWalk.i64_in _ (by omega)]; omega)
 have HW2 := Lib.hid (show IntKind.i64.wrap ((cols : Int) - k) = ((cols - k : Nat) : Int) by rw [IntWalk.i64_in _ (by omega)]; omega)
 clear hS5 hx2 hf2 hz2 hn0 hng hcmp
 go_upto_region 21 with (fail)
 refine wp_region_stage (w0 := w0) (os := os) (by kernel_rfl) (by kernel_rfl) (by kernel_rfl) [(0, 8, [], fun vs => .cells (.slice (some ⟨g, 0, none⟩) l.1.length c) ((brk (j + k) (brk j l.1)).take j ++ (((brk (j + k) (brk j l.1)).drop (j + k)).take (cols - (j + k)) ++ (brk (j + k) (brk j l.1)).drop (j + (cols - (j + k))))))] [[], [], [], [], [], [], [], [], [0]] [.cells (.slice (some ⟨g, 0, none⟩) l.1.length c) (brk (j + k) (brk j l.1)), .linesx (.slice (some ⟨gr, 0, none⟩) L.length cr) L i (.slice (some ⟨g, 0, none⟩) l.1.length c), .box p 58 #[.int .i64 ↑cols, .slice (some ⟨gr, 0, none⟩) L.length cr], .box b9 54 (pv q)] (fun i u => match i with | 0 => u = .slice (some ⟨g, 0, none⟩) l.1.length c | 1 => u = .int .i64 ↑j | 2 => u = .slice (tailA (some ⟨g, 0, none⟩) c j) (l.1.length - j) (c - j) | 3 => u = .slice (some ⟨g, 0, none⟩) l.1.length c | 4 => u = .int .i64 ↑j | 5 => u = .int .i64 ↑k | 6 => u = .int .i64 ↑(j + k) | 7 => u = .slice (tailA (some ⟨g, 0, none⟩) c (j + k)) (l.1.length - (j + k)) (c - (j + k)) | 8 => True | _ => True) (fun vs => [.cells (.slice (some ⟨g, 0, none⟩) l.1.length c) ((brk (j + k) (brk j l.1)).take j ++ (((brk (j + k) (brk j l.1)).drop (j + k)).take (cols - (j + k)) ++ (brk (j + k) (brk j l.1)).drop (j + (cols - (j + k))))), .linesx (.slice (some ⟨gr, 0, none⟩) L.length cr) L i (.slice (some ⟨g, 0, none⟩) l.1.length c), .box p 58 #[.int .i64 ↑cols, .slice (some ⟨gr, 0, none⟩) L.length cr], .box b9 54 (pv q)]) (by kernel_rfl) (fun vs => by rfl) S5.out ?_ ?_
 ·apply sc
  ·intro a w' vs σ hS hl hs hk
   have f12 : a.tmps[12]?.getD undef = .slice (some ⟨g, 0, none⟩) l.1.length c := sof hk
   exact rp (.slice (some ⟨g, 0, none⟩) l.1.length c) (by simp [execOp, Act.eval, f12, go_sem]) hl hs hS
  apply sc
  ·intro a w' vs σ hS hl hs hk
   have f2 : a.tmps[2]?.getD undef = .int .i64 ↑j := sof hk
   exact rp (.int .i64 ↑j) (by simp [execOp, Act.eval, f2, go_sem]) hl hs hS
  apply sc
  ·intro a w' vs σ hS hl hs hk
   have f96 : a.tmps[96]?.getD undef = .slice (some ⟨g, 0, none⟩) l.1.length c := svf hk 0
   have f97 : a.tmps[97]?.getD undef = .int .i64 ↑j := svf hk 1
   exact rs_run (wanted_none rfl) (exec_slice rfl (by simp [Act.eval, f96, f97]) (by simp [Act.eval, f96, f97]; try rfl) (by simp [Act.eval, f96, f97]; try rfl) (run_from w' (some ⟨g, 0, none⟩) l.1.length c j (by omega) (by omega) (fun h => by cases h) (by omega))) (sp_same (by kernel_rfl) hl hs hS (show (.slice (tailA (some ⟨g, 0, none⟩) c j) (l.1.length - j) (c - j) : Value) = _ from rfl))
  apply sc
  ·intro a w' vs σ hS hl hs hk
   have f12 : a.tmps[12]?.getD undef = .slice (some ⟨g, 0, none⟩) l.1.length c := sof hk
   exact rp (.slice (some ⟨g, 0, none⟩) l.1.length c) (by simp [execOp, Act.eval, f12, go_sem]) hl hs hS
  apply sc
  ·intro a w' vs σ hS hl hs hk
   have f2 : a.tmps[2]?.getD undef = .int .i64 ↑j := sof hk
   exact rp (.int .i64 ↑j) (by simp [execOp, Act.eval, f2, go_sem]) hl hs hS
  apply sc
  ·intro a w' vs σ hS hl hs hk
   have f15 : a.tmps[15]?.getD undef = .int .i64 ↑k := sof hk
   exact rp (.int .i64 ↑k) (by simp [execOp, Act.eval, f15, go_sem]) hl hs hS
  apply sc
  ·intro a w' vs σ hS hl hs hk
   have f100 : a.tmps[100]?.getD undef = .int .i64 ↑j := svf hk 4
   have f101 : a.tmps[101]?.getD undef = .int .i64 ↑k := svf hk 5
   exact rp (.int .i64 ↑(j + k)) (by simp [execOp, Act.eval, f100, f101, go_sem, HW1.out]) hl hs hS
  apply sc
  ·intro a w' vs σ hS hl hs hk
   have f99 : a.tmps[99]?.getD undef = .slice (some ⟨g, 0, none⟩) l.1.length c := svf hk 3
   have f102 : a.tmps[102]?.getD undef = .int .i64 ↑(j + k) := svf hk 6
   exact rs_run (wanted_none rfl) (exec_slice rfl (by simp [Act.eval, f99, f102]) (by simp [Act.eval, f99, f102]; try rfl) (by simp [Act.eval, f99, f102]; try rfl) (run_from w' (some ⟨g, 0, none⟩) l.1.length c (j + k) (by omega) (by omega) (fun h => by cases h) (by omega))) (sp_same (by kernel_rfl) hl hs hS (show (.slice (tailA (some ⟨g, 0, none⟩) c (j + k)) (l.1.length - (j + k)) (c - (j + k)) : Value) = _ from rfl))
  apply sc
  ·intro a w' vs σ hS hl hs hk
   have e98 : a.tmps.getD 98 undef = .slice (tailA (some ⟨g, 0, none⟩) c j) (l.1.length - j) (c - j) := svv hk 2
   have e103 : a.tmps.getD 103 undef = .slice (tailA (some ⟨g, 0, none⟩) c (j + k)) (l.1.length - (j + k)) (c - (j + k)) := svv hk 7
   have h0 : σ[0]? = some (.cells (.slice (some ⟨g, 0, none⟩) l.1.length c) (brk (j + k) (brk j l.1))) := hs 0 (by decide)
   obtain ⟨W, hr, hW⟩ := run_copyO hS (sg h0) (j) (j + k) (cols - (j + k)) (tailA (some ⟨g, 0, none⟩) c j) (tailA (some ⟨g, 0, none⟩) c (j + k)) (l.1.length - j) (c - j) (l.1.length - (j + k)) (c - (j + k)) (by show min (l.1.length - (j + k)) (l.1.length - j) = _; omega) (by rw [brk_length, brk_length]; omega) (by rw [brk_length, brk_length]; omega) (fun hp => ⟨tailA_at (by omega), tailA_at (by omega)⟩) 3
   exact rs_run (wanted_none rfl) (exec_copy rfl (by simp only [Act.eval]; exact e98) (by simp only [Act.eval]; exact e103) hr) (sp_set 0 _ (by kernel_rfl) (by simp) (by decide) hl hs (by rfl) hW trivial)
  exact SSteps.nil
 ·intro vs w' hS hv
  have q0 : vs 0 = _ := hv 0 (by decide)
  have q1 : vs 1 = _ := hv 1 (by decide)
  have q2 : vs 2 = _ := hv 2 (by decide)
  have q3 : vs 3 = _ := hv 3 (by decide)
  have q4 : vs 4 = _ := hv 4 (by decide)
  have q5 : vs 5 = _ := hv 5 (by decide)
  have q6 : vs 6 = _ := hv 6 (by decide)
  have q7 : vs 7 = _ := hv 7 (by decide)
  have S2 := Lib.hid hS
  simp only [putL, Act.put, Nat.zero_add, Nat.reduceAdd, List.setIfInBounds_toArray, List.set_cons_succ, List.set_cons_zero, q0, q1, q2, q3, q4, q5, q6, q7]
  clear hS hv q0 q1 q2 q3 q4 q5 q6 q7
  clear S5
  have S6 := S2
  clear S2
  have HCL := Lib.hid (show ((brk (j + k) (brk j l.1)).take j ++ (((brk (j + k) (brk j l.1)).drop (j + k)).take (cols - (j + k)) ++ (brk (j + k) (brk j l.1)).drop (j + (cols - (j + k))))).length = cols by simp only [List.length_append, List.length_take, List.length_drop, brk_length]; omega)
  go_upto_region 22 with (fail)
  refine wp_region_stage (w0 := w0) (os := os) (by kernel_rfl) (by kernel_rfl) (by kernel_rfl) [(0, 9, [], fun vs => .cells (.slice (some ⟨g, 0, none⟩) l.1.length c) (wipeC (cols - k) (l.1.length - (cols - k)) q ((brk (j + k) (brk j l.1)).take j ++ (((brk (j + k) (brk j l.1)).drop (j + k)).take (cols - (j + k)) ++ (brk (j + k) (brk j l.1)).drop (j + (cols - (j + k)))))))] [[], [], [], [], [2], [], [], [], [3], [0]] [.cells (.slice (some ⟨g, 0, none⟩) l.1.length c) ((brk (j + k) (brk j l.1)).take j ++ (((brk (j + k) (brk j l.1)).drop (j + k)).take (cols - (j + k)) ++ (brk (j + k) (brk j l.1)).drop (j + (cols - (j + k))))), .linesx (.slice (some ⟨gr, 0, none⟩) L.length cr) L i (.slice (some ⟨g, 0, none⟩) l.1.length c), .box p 58 #[.int .i64 ↑cols, .slice (some ⟨gr, 0, none⟩) L.length cr], .box b9 54 (pv q)] (fun i u => match i with | 0 => u = .slice (some ⟨g, 0, none⟩) l.1.length c | 1 => u = .pointer (some ⟨p, 0, none⟩) | 2 => u = .pointer (some ⟨p, 0, none⟩) | 3 => u = .pointer (some ⟨p, 0, none⟩) | 4 => u = .int .i64 ↑cols | 5 => u = .int .i64 ↑k | 6 => u = .int .i64 ↑(cols - k) | 7 => u = .slice (tailA (some ⟨g, 0, none⟩) c (cols - k)) (l.1.length - (cols - k)) (c - (cols - k)) | 8 => u = .agg (pv q) | 9 => u = .tuple #[] | _ => True) (fun vs => [.cells (.slice (some ⟨g, 0, none⟩) l.1.length c) (wipeC (cols - k) (l.1.length - (cols - k)) q ((brk (j + k) (brk j l.1)).take j ++ (((brk (j + k) (brk j l.1)).drop (j + k)).take (cols - (j + k)) ++ (brk (j + k) (brk j l.1)).drop (j + (cols - (j + k)))))), .linesx (.slice (some ⟨gr, 0, none⟩) L.length cr) L i (.slice (some ⟨g, 0, none⟩) l.1.length c), .box p 58 #[.int .i64 ↑cols, .slice (some ⟨gr, 0, none⟩) L.length cr], .box b9 54 (pv q)]) (by kernel_rfl) (fun vs => by rfl) S6.out ?_ ?_
  ·apply sc
   ·intro a w' vs σ hS hl hs hk
    have f12 : a.tmps[12]?.getD undef = .slice (some ⟨g, 0, none⟩) l.1.length c := sof hk
    exact rp (.slice (some ⟨g, 0, none⟩) l.1.length c) (by simp [execOp, Act.eval, f12, go_sem]) hl hs hS
   apply sc
   ·intro a w' vs σ hS hl hs hk
    have f0 : a.tmps[0]?.getD undef = .pointer (some ⟨p, 0, none⟩) := sof hk
    exact rp (pt p 0) (by simp [execOp, Act.eval, f0, go_sem]) hl hs hS
   apply sc
   ·intro a w' vs σ hS hl hs hk
    have f106 : a.tmps[106]?.getD undef = .pointer (some ⟨p, 0, none⟩) := svf hk 1
    exact rp (pt p 0) (by simp [execOp, Act.eval, f106, go_sem]) hl hs hS
   apply sc
   ·intro a w' vs σ hS hl hs hk
    have f107 : a.tmps[107]?.getD undef = .pointer (some ⟨p, 0, none⟩) := svf hk 2
    exact rp (pt p 0) (by simp [execOp, Act.eval, f107, go_sem]) hl hs hS
   apply sc
   ·intro a w' vs σ hS hl hs hk
    have f108 : a.tmps[108]?.getD undef = .pointer (some ⟨p, 0, none⟩) := svf hk 3
    have hx := (hS.box (sg (hs 2 (by decide)))).cell
    exact rp (.int .i64 ↑cols) (by simp [execOp, Act.eval, f108, go_sem, hx]) hl hs hS
   apply sc
   ·intro a w' vs σ hS hl hs hk
    have f15 : a.tmps[15]?.getD undef = .int .i64 ↑k := sof hk
    exact rp (.int .i64 ↑k) (by simp [execOp, Act.eval, f15, go_sem]) hl hs hS
   apply sc
   ·intro a w' vs σ hS hl hs hk
    have f109 : a.tmps[109]?.getD undef = .int .i64 ↑cols := svf hk 4
    have f110 : a.tmps[110]?.getD undef = .int .i64 ↑k := svf hk 5
    exact rp (.int .i64 ↑(cols - k)) (by simp [execOp, Act.eval, f109, f110, go_sem, HW2.out]) hl hs hS
   apply sc
   ·intro a w' vs σ hS hl hs hk
    have f105 : a.tmps[105]?.getD undef = .slice (some ⟨g, 0, none⟩) l.1.length c := svf hk 0
    have f111 : a.tmps[111]?.getD undef = .int .i64 ↑(cols - k) := svf hk 6
    exact rs_run (wanted_none rfl) (exec_slice rfl (by simp [Act.eval, f105, f111]) (by simp [Act.eval, f105, f111]; try rfl) (by simp [Act.eval, f105, f111]; try rfl) (run_from w' (some ⟨g, 0, none⟩) l.1.length c (cols - k) (by omega) (by omega) (fun h => by cases h) (by omega))) (sp_same (by kernel_rfl) hl hs hS (show (.slice (tailA (some ⟨g, 0, none⟩) c (cols - k)) (l.1.length - (cols - k)) (c - (cols - k)) : Value) = _ from rfl))
   apply sc
   ·intro a w' vs σ hS hl hs hk
    have f9 : a.tmps[9]?.getD undef = .pointer (some ⟨b9, 0, none⟩) := sof hk
    have hx := (hS.box (sg (hs 3 (by decide)))).penAt
    exact rp (.agg (pv q)) (by simp [execOp, Act.eval, f9, go_sem, hx]) hl hs hS
   apply sc
   ·intro a w' vs σ hS hl hs hk
    have e112 : a.tmps.getD 112 undef = .slice (tailA (some ⟨g, 0, none⟩) c (cols - k)) (l.1.length - (cols - k)) (c - (cols - k)) := svv hk 7
    have e113 : a.tmps.getD 113 undef = .agg (pv q) := svv hk 8
    have h0 : σ[0]? = some (.cells (.slice (some ⟨g, 0, none⟩) l.1.length c) ((brk (j + k) (brk j l.1)).take j ++ (((brk (j + k) (brk j l.1)).drop (j + k)).take (cols - (j + k)) ++ (brk (j + k) (brk j l.1)).drop (j + (cols - (j + k)))))) := hs 0 (by decide)
    rw [tailA_at (by omega)] at e112
    exact ro_call (f := 89) (wanted_none rfl) rfl (by simp only [List.map_toArray, List.map_cons, List.map_nil, Act.eval, e112, e113] <;> rfl) (fun _ _ => by kernel_rfl) ((front_call hS (sg h0) (fun os1 h => wipe_front g l.1.length c (cols - k) (l.1.length - (cols - k)) (c - (cols - k)) ((brk (j + k) (brk j l.1)).take j ++ (((brk (j + k) (brk j l.1)).drop (j + k)).take (cols - (j + k)) ++ (brk (j + k) (brk j l.1)).drop (j + (cols - (j + k))))) q w0 w' os1 h (by have := HCL.out; omega) (by omega) (by have := HCL.out; omega))).mono fun e w2 ⟨h1, h2⟩ => ⟨_, h1, sp_set 0 _ (by kernel_rfl) (by simp) (by decide) hl hs (by rfl) h2 rfl, trivial⟩)
   exact SSteps.nil
  ·intro vs w' hS hv
   have q0 : vs 0 = _ := hv 0 (by decide)
   have q1 : vs 1 = _ := hv 1 (by decide)
   have q2 : vs 2 = _ := hv 2 (by decide)
   have q3 : vs 3 = _ := hv 3 (by decide)
   have q4 : vs 4 = _ := hv 4 (by decide)
   have q5 : vs 5 = _ := hv 5 (by decide)
   have q6 : vs 6 = _ := hv 6 (by decide)
   have q7 : vs 7 = _ := hv 7 (by decide)
   have q8 : vs 8 = _ := hv 8 (by decide)
   have q9 : vs 9 = _ := hv 9 (by decide)
   have S2 := Lib.hid hS
   simp only [putL, Act.put, Nat.zero_add, Nat.reduceAdd, List.setIfInBounds_toArray, List.set_cons_succ, List.set_cons_zero, q0, q1, q2, q3, q4, q5, q6, q7, q8, q9]
   clear hS hv q0 q1 q2 q3 q4 q5 q6 q7 q8 q9
   have HF := (show Objs w0 w' (_ :: _ :: _ :: _ :: os) from S2.out).closeAt HL.out
   rw [HP.out] at HF
   go_wp2_with fail
   go_ret
   exact ⟨rfl, HF.drop2⟩
end
end Go.Proofs.YtppijfjigcoifaaDoor

namespace Go.Proofs.YtppijfjigcoifaaDoor
open Go.RowKit

@[go_sem] theorem run_fieldL (A : Option Addr) (n c : Nat) (b : Bool) (w : World) : (Instr.field 39 (.agg #[.slice A n c, .bool b]) 0).run Tryd.prog w = .ok (.slice A n c) w := by kernel_rfl
section
variable {w0 w : World} {os : List Ob} {p cols : Nat} {L : List Ln}
end
end Go.Proofs.YtppijfjigcoifaaDoor

namespace Go.Proofs.YtppijfjigcoifaaDoor
open Go.RowKit

section
variable {w0 w : World} {os : List Ob} {p cols : Nat} {L : List Ln}
set_option maxHeartbeats 1000000 in
theorem SetSoft_yes {i : Nat} {l : Ln} (s : Bool) (hS : Objs w0 w (.grid p 58 cols L :: os)) (hc : 0 < cols) (hl : L[i]? = some l) (hlen : L.length ≤ 1000000) :
  Calls Tryd.prog 46 #[.pointer (some ⟨p, 0, none⟩), .int .i64 i, .bool s] w fun e w' => e = .returned (.int .i64 0) ∧ Objs w0 w' (.grid p 58 cols (L.set i (l.1, s)) :: os) := by
 have S := Lib.hid hS
 have hi : i < L.length := (List.getElem?_eq_some_iff.1 hl).1
 have HL := Lib.hid hl
 have HE := Lib.hid (show thereE i L = 0 by unfold thereE; rw [if_pos ⟨by omega, by omega⟩])
 clear hS hl
 go_enter Tryd.func46, Tryd.ntmps46
 go_wp2_with fail
 refine (there_any i S.out (k := 0) rfl hc).mono ?_
 rw [HE.out]
 rintro e w1 ⟨rfl, hS⟩
 obtain ⟨v, hS1⟩ := hS.openGrid (k := 0) rfl
 obtain ⟨A, c, rfl, hcm, hrd⟩ := hS1.linesRd (k := 0) rfl
 obtain ⟨F, bs, hF, -⟩ := hS1.get (k := 0) rfl
 obtain ⟨A2, c2, e2, -, -, -, h4⟩ := hF.form
 simp only [Value.slice.injEq, true_and] at e2
 obtain ⟨rfl, rfl⟩ := e2
 obtain ⟨g, rfl, hz, -, hso, hfz⟩ := h4 (by omega)
 have hso2 := hso i l HL.out
 obtain ⟨hx0, hf0, hz0⟩ := (hS1.box (k := 1) rfl).facts
 have S2 := Lib.hid (((hS1.storeSoft (k := 0) (s := s) rfl HL.out) : Objs w0 _ (.lines _ _ :: _ :: os)).closeGrid (k := 0) rfl)
 clear hS hS1 S hcm hrd hF h4 hso
 go_wp2_with fail
 go_ret
 exact ⟨rfl, S2.out⟩
set_option maxHeartbeats 1000000 in
theorem SetSoft_no {row : Int} (s : Bool) (hS : Objs w0 w (.grid p 58 cols L :: os)) (hc : 0 < cols) (hno : ¬ (0 ≤ row ∧ row < L.length)) :
  Calls Tryd.prog 46 #[.pointer (some ⟨p, 0, none⟩), .int .i64 row, .bool s] w fun e w' => e = .returned (.int .i64 3) ∧ Objs w0 w' (.grid p 58 cols L :: os) := by
 have S := Lib.hid hS
 have HE := Lib.hid (show thereE row L = 3 by unfold thereE; rw [if_neg hno])
 clear hS hno
 go_enter Tryd.func46, Tryd.ntmps46
 go_wp2_with fail
 refine (there_any row S.out (k := 0) rfl hc).mono ?_
 rw [HE.out]
 rintro e w1 ⟨rfl, hS⟩
 have S1 := Lib.hid hS
 clear hS S
 go_wp2_with fail
 go_ret
 exact ⟨rfl, S1.out⟩
end
end Go.Proofs.YtppijfjigcoifaaDoor

namespace Go.Proofs.YtppijfjigcoifaaDoor
open Go.RowKit

section
variable {w0 w : World} {os : List Ob} {p cols : Nat} {L : List Ln}
end
end Go.Proofs.YtppijfjigcoifaaDoor

namespace Go.Proofs.YtppijfjigcoifaaDoor
open Go.RowKit

theorem tt_of {f : FuncId} {args : Array Value} {w : World} {b : Bool} (hc : Calls Tryd.prog f args w fun e w' => e = .returned (.bool b) ∧ Below w.heap.size w w') (h : b = true) : Calls Tryd.prog f args w fun e w' => e = .returned (.bool true) ∧ Below w.heap.size w w' := h ▸ hc
theorem ff_of {f : FuncId} {args : Array Value} {w : World} {b : Bool} (hc : Calls Tryd.prog f args w fun e w' => e = .returned (.bool b) ∧ Below w.heap.size w w') (h : b = false) : Calls Tryd.prog f args w fun e w' => e = .returned (.bool false) ∧ Below w.heap.size w w' := h ▸ hc
theorem upto_eqG {α : Type} {xs ys : List α} (hl : xs.length = ys.length) (h : ∀ k, k < xs.length → xs[k]? = ys[k]?) : xs = ys := by
 apply List.ext_getElem?
 intro k
 rcases Nat.lt_or_ge k xs.length with hk | hk
 ·exact h k hk
 ·rw [List.getElem?_eq_none hk, List.getElem?_eq_none (by omega)]
set_option maxHeartbeats 2000000 in
theorem r14SameLine_any (A B : Option Addr) (ca cb : Nat) (xs ys : List Cell) (s t : Bool) (w : World) (ha : RdC w A ca xs) (hb : RdC w B cb ys) (hn : xs.length ≤ 1000000) (hm : ys.length ≤ 1000000) :
  Calls Tryd.prog 41 #[.agg #[.slice A xs.length ca, .bool s], .agg #[.slice B ys.length cb, .bool t]] w fun e w' => e = .returned (.bool (eqL xs s ys t)) ∧ Below w.heap.size w w' := by
 have HA := Lib.hid ha
 have HB := Lib.hid hb
 clear ha hb
 have HD := Lib.hid (lineEq_dec xs ys s t)
 by_cases hst : s = t
 case neg =>
  have h' : (s == t) = false := by simpa using hst
  go_enter Tryd.func41, Tryd.ntmps41
  go_wp2_with fail
  go_ret
  exact ⟨by rw [HD.out]; simp [hst], (belA _ _).trans ((belA _ _).mono (by simp))⟩
 subst hst
 by_cases hl : xs.length = ys.length
 case neg =>
  have HE := Lib.hid (show decide (xs = ys) = false by simp; intro h; exact hl (by rw [h]))
  have hl' : ((xs.length : Int) == (ys.length : Int)) = false := by rw [beq_eq_false_iff_ne]; omega
  clear hl
  go_enter Tryd.func41, Tryd.ntmps41
  go_wp2_with fail
  go_ret
  exact ⟨by rw [HD.out, HE.out]; simp, (belA _ _).trans ((belA _ _).mono (by simp))⟩
 have hl' : ((xs.length : Int) == (ys.length : Int)) = true := by simp; omega
 have HL := Lib.hid hl
 clear hl
 go_enter Tryd.func41, Tryd.ntmps41
 go_wp2_with fail
 go_loopw [5] (fun i wr => ∃ k : Nat, k ≤ xs.length ∧ i = .int .i64 k ∧ (∀ j, j < k → xs[j]? = ys[j]?) ∧ Blk wr w.heap.size 39 #[.slice A xs.length ca, .bool s] ∧ Blk wr (w.heap.size + 1) 39 #[.slice B ys.length cb, .bool s] ∧ Below w.heap.size w wr) (fun i _ => xs.length - (intOf i).toNat)
 case atStart => exact ⟨0, by omega, rfl, fun j hj => by omega, (Blk.new _ _ _).alloc _, by have := Blk.new (w.alloc (.cells #[.slice A xs.length ca, .bool s] 39)) 39 #[.slice B ys.length cb, .bool s]; simpa using this, (belA _ _).trans ((belA _ _).mono (by simp))⟩
 case round =>
  obtain ⟨k, hk, rfl, hj, hk1, hk2, hb⟩ := hrel
  have HJ := Lib.hid hj
  have HW := Lib.hid hb
  have K1 := Lib.hid hk1
  have K2 := Lib.hid hk2
  obtain ⟨hx1, hf1, hz1⟩ := hk1.facts
  obtain ⟨hx2, hf2, hz2⟩ := hk2.facts
  clear hj hb hk1 hk2
  by_cases hlt : k < xs.length
  ·have hlt2 : k < ys.length := by have := HL.out; omega
   obtain ⟨b1, o1, rfl, hz3, hr1⟩ := (HA.out.bel HW.out).at_ hlt
   obtain ⟨b2, o2, rfl, hz4, hr2⟩ := (HB.out.bel HW.out).at_ hlt2
   have hc1 := elem_cell hr1 hlt
   have hc2 := elem_cell hr2 hlt2
   clear hr1 hr2
   by_cases he : xs[k] = ys[k]
   ·have he' : decide (xs[k] = ys[k]) = true := by simpa using he
    have HE := Lib.hid he
    clear he
    go_wp2_with fail
    refine wp_region_below (by kernel_rfl) (by kernel_rfl) ?_
    repeat (go_big_quiet_step (fail))
    refine wpQuiet_nil ?_
    intro w2 hb2
    have K12 := Lib.hid (K1.out.bel hb2)
    have K22 := Lib.hid (K2.out.bel hb2)
    clear hx1 hf1 hz1 hx2 hf2 hz2 hc1 hc2
    go_wp2_with fail
    go_roundw
    case rel => exact ⟨k + 1, by omega, by go_num, upto_succ HJ.out (by rw [List.getElem?_eq_getElem hlt, List.getElem?_eq_getElem hlt2, HE.out]), K12.out, K22.out, HW.out.trans (hb2.mono HW.out.size)⟩
    case measure => simp [intOf]; omega
   ·have he' : decide (xs[k] = ys[k]) = false := by simpa using he
    have HE := Lib.hid (show decide (xs = ys) = false by simp; rintro rfl; exact he rfl)
    clear he
    go_wp2_with fail
    refine wp_region_below (by kernel_rfl) (by kernel_rfl) ?_
    repeat (go_big_quiet_step (fail))
    refine wpQuiet_nil ?_
    intro w2 hb2
    clear hx1 hf1 hz1 hx2 hf2 hz2 hc1 hc2
    go_wp2_with fail
    go_ret
    exact ⟨by rw [HD.out, HE.out]; simp, HW.out.trans (hb2.mono HW.out.size)⟩
  ·have HE := Lib.hid (show decide (xs = ys) = true by simp; exact upto_eq HL.out (fun j hj => HJ.out j (by omega)))
   go_wp2_with fail
   go_ret
   exact ⟨by rw [HD.out, HE.out]; simp, HW.out⟩
theorem eqL_line (a b : Ln) : eqL a.1 a.2 b.1 b.2 = decide (a = b) := rfl
set_option maxHeartbeats 2000000 in
theorem r14SameLines_any (A B : Option Addr) (ca cb : Nat) (xs ys : List Ln) (w : World) (ha : RdL w A ca xs) (hb : RdL w B cb ys) (hn : xs.length ≤ 1000000) (hm : ys.length ≤ 1000000) (hx : ∀ l ∈ xs, l.1.length ≤ 1000000) (hy : ∀ l ∈ ys, l.1.length ≤ 1000000) :
  Calls Tryd.prog 19 #[.slice A xs.length ca, .slice B ys.length cb] w fun e w' => e = .returned (.bool (decide (xs = ys))) ∧ Below w.heap.size w w' := by
 have HA := Lib.hid ha
 have HB := Lib.hid hb
 have HX := Lib.hid hx
 have HY := Lib.hid hy
 clear ha hb hx hy
 by_cases hl : xs.length = ys.length
 case neg =>
  have HE := Lib.hid (show decide (xs = ys) = false by simp; intro h; exact hl (by rw [h]))
  have hl' : ((xs.length : Int) == (ys.length : Int)) = false := by rw [beq_eq_false_iff_ne]; omega
  clear hl
  go_enter Tryd.func19, Tryd.ntmps19
  go_wp2_with fail
  go_ret
  exact ⟨by rw [HE.out]; rfl, Below.refl _ _⟩
 have hl' : ((xs.length : Int) == (ys.length : Int)) = true := by simp; omega
 have HL := Lib.hid hl
 clear hl
 go_enter Tryd.func19, Tryd.ntmps19
 go_wp2_with fail
 go_loopw [5] (fun i wr => ∃ k : Nat, k ≤ xs.length ∧ i = .int .i64 k ∧ (∀ j, j < k → xs[j]? = ys[j]?) ∧ Below w.heap.size w wr) (fun i _ => xs.length - (intOf i).toNat)
 case atStart => exact ⟨0, by omega, rfl, fun j hj => by omega, Below.refl _ _⟩
 case round =>
  obtain ⟨k, hk, rfl, hj, hb⟩ := hrel
  have HJ := Lib.hid hj
  have HW := Lib.hid hb
  clear hj hb
  by_cases hlt : k < xs.length
  ·have hlt2 : k < ys.length := by have := HL.out; omega
   obtain ⟨b1, o1, A1, c1, rfl, hz1, hc1, hc2, hr1⟩ := (HA.out.bel HW.out).at_ (show xs[k]? = some xs[k] by simp [hlt])
   obtain ⟨b2, o2, A2, c2, rfl, hz2, hc3, hc4, hr2⟩ := (HB.out.bel HW.out).at_ (show ys[k]? = some ys[k] by simp [hlt2])
   have HR1 := Lib.hid hr1
   have HR2 := Lib.hid hr2
   clear hr1 hr2
   have HN1 := Lib.hid (HX.out _ (List.getElem_mem hlt))
   have HN2 := Lib.hid (HY.out _ (List.getElem_mem hlt2))
   by_cases he : xs[k] = ys[k]
   ·have HE := Lib.hid he
    have HQ := Lib.hid (show eqL xs[k].1 xs[k].2 ys[k].1 ys[k].2 = true by rw [eqL_line]; simpa using he)
    clear he
    go_wp2_with fail
    refine wp_region_below (by kernel_rfl) (by kernel_rfl) ?_
    repeat (go_big_quiet_step ((go_at_call 41; exact quiet_below (tt_of (r14SameLine_any A1 A2 c1 c2 xs[k].1 ys[k].1 xs[k].2 ys[k].2 _ (HR1.out.bel (below_plus _ _)) (HR2.out.bel (below_plus _ _)) HN1.out HN2.out) HQ.out))))
    refine wpQuiet_nil ?_
    intro w2 hb2
    clear hc1 hc2 hc3 hc4
    go_wp2_with fail
    go_roundw
    case rel => exact ⟨k + 1, by omega, by go_num, upto_succ HJ.out (by rw [List.getElem?_eq_getElem hlt, List.getElem?_eq_getElem hlt2, HE.out]), HW.out.trans (hb2.mono HW.out.size)⟩
    case measure => simp [intOf]; omega
   ·have HE := Lib.hid (show decide (xs = ys) = false by simp; rintro rfl; exact he rfl)
    have HQ := Lib.hid (show eqL xs[k].1 xs[k].2 ys[k].1 ys[k].2 = false by rw [eqL_line]; simpa using he)
    clear he
    go_wp2_with fail
    refine wp_region_below (by kernel_rfl) (by kernel_rfl) ?_
    repeat (go_big_quiet_step ((go_at_call 41; exact quiet_below (ff_of (r14SameLine_any A1 A2 c1 c2 xs[k].1 ys[k].1 xs[k].2 ys[k].2 _ (HR1.out.bel (below_plus _ _)) (HR2.out.bel (below_plus _ _)) HN1.out HN2.out) HQ.out))))
    refine wpQuiet_nil ?_
    intro w2 hb2
    clear hc1 hc2 hc3 hc4
    go_wp2_with fail
    go_ret
    exact ⟨by rw [HE.out]; rfl, HW.out.trans (hb2.mono HW.out.size)⟩
  ·have HE := Lib.hid (show decide (xs = ys) = true by simp; exact upto_eqG HL.out (fun j hj => HJ.out j (by omega)))
   go_wp2_with fail
   go_ret
   exact ⟨by rw [HE.out]; rfl, HW.out⟩
end Go.Proofs.YtppijfjigcoifaaDoor

namespace Go.Proofs.YtppijfjigcoifaaDoor
open Go.RowKit

set_option maxHeartbeats 2000000 in
theorem eqFunc_any (A B : Option Addr) (ca cb : Nat) (xs ys : List Ln) (w : World) (ha : RdL w A ca xs) (hb : RdL w B cb ys) (hn : xs.length ≤ 1000000) (hm : ys.length ≤ 1000000) (hx : ∀ l ∈ xs, l.1.length ≤ 1000000) (hy : ∀ l ∈ ys, l.1.length ≤ 1000000) :
  Calls Tryd.prog 85 #[.slice A xs.length ca, .slice B ys.length cb, .func (.func 86) #[] #[]] w fun e w' => e = .returned (.bool (decide (xs = ys))) ∧ Below w.heap.size w w' := by
 have HA := Lib.hid ha
 have HB := Lib.hid hb
 have HX := Lib.hid hx
 have HY := Lib.hid hy
 clear ha hb hx hy
 by_cases hl : xs.length = ys.length
 case neg =>
  have HE := Lib.hid (show decide (xs = ys) = false by simp; intro h; exact hl (by rw [h]))
  have hl' : ((xs.length : Int) == (ys.length : Int)) = false := by rw [beq_eq_false_iff_ne]; omega
  clear hl
  go_enter Tryd.func85, Tryd.ntmps85
  go_wp2_with fail
  go_ret
  exact ⟨by rw [HE.out]; rfl, Below.refl _ _⟩
 have hl' : ((xs.length : Int) == (ys.length : Int)) = true := by simp; omega
 have hl2 : ((xs.length : Int) != (ys.length : Int)) = false := by simp; omega
 have HL := Lib.hid hl
 clear hl
 go_enter Tryd.func85, Tryd.ntmps85
 go_wp2_with fail
 go_loopw [7, 8, 9, 17] (fun _ _ _ i wr => ∃ k : Nat, k ≤ xs.length ∧ i = .int .i64 k ∧ (∀ j, j < k → xs[j]? = ys[j]?) ∧ Below w.heap.size w wr) (fun _ _ _ i _ => xs.length - (intOf i).toNat)
 case atStart => exact ⟨0, by omega, rfl, fun j hj => by omega, Below.refl _ _⟩
 case round =>
  obtain ⟨k, hk, rfl, hj, hb⟩ := hrel
  have HJ := Lib.hid hj
  have HW := Lib.hid hb
  clear hj hb
  by_cases hlt : k < xs.length
  ·have hlt2 : k < ys.length := by have := HL.out; omega
   obtain ⟨b1, o1, A1, c1, rfl, hz1, hc1, hc2, hr1⟩ := (HA.out.bel HW.out).at_ (show xs[k]? = some xs[k] by simp [hlt])
   obtain ⟨b2, o2, A2, c2, rfl, hz2, hc3, hc4, hr2⟩ := (HB.out.bel HW.out).at_ (show ys[k]? = some ys[k] by simp [hlt2])
   have HR1 := Lib.hid hr1
   have HR2 := Lib.hid hr2
   clear hr1 hr2
   have HN1 := Lib.hid (HX.out _ (List.getElem_mem hlt))
   have HN2 := Lib.hid (HY.out _ (List.getElem_mem hlt2))
   by_cases he : xs[k] = ys[k]
   ·have HE := Lib.hid he
    have HQ := Lib.hid (show eqL xs[k].1 xs[k].2 ys[k].1 ys[k].2 = true by rw [eqL_line]; simpa using he)
    clear he
    go_wp2_with fail
    refine (tt_of (lineEqual_any A1 A2 c1 c2 xs[k].1 ys[k].1 xs[k].2 ys[k].2 _ ((HR1.out.alloc _).alloc _) ((HR2.out.alloc _).alloc _) HN1.out HN2.out) HQ.out).mono ?_
    rintro e w2 ⟨rfl, hb2⟩
    have HB2 := Lib.hid (bel1 (bel1 hb2))
    clear hc1 hc2 hc3 hc4 hb2
    go_wp2_with fail
    go_roundw
    case rel => exact ⟨k + 1, by omega, by go_num, upto_succ HJ.out (by rw [List.getElem?_eq_getElem hlt, List.getElem?_eq_getElem hlt2, HE.out]), HW.out.trans (HB2.out.mono HW.out.size)⟩
    case measure => simp [intOf]; omega
   ·have HE := Lib.hid (show decide (xs = ys) = false by simp; rintro rfl; exact he rfl)
    have HQ := Lib.hid (show eqL xs[k].1 xs[k].2 ys[k].1 ys[k].2 = false by rw [eqL_line]; simpa using he)
    clear he
    go_wp2_with fail
    refine (ff_of (lineEqual_any A1 A2 c1 c2 xs[k].1 ys[k].1 xs[k].2 ys[k].2 _ ((HR1.out.alloc _).alloc _) ((HR2.out.alloc _).alloc _) HN1.out HN2.out) HQ.out).mono ?_
    rintro e w2 ⟨rfl, hb2⟩
    have HB2 := Lib.hid (bel1 (bel1 hb2))
    clear hc1 hc2 hc3 hc4 hb2
    go_wp2_with fail
    go_ret
    exact ⟨by rw [HE.out]; rfl, HW.out.trans (HB2.out.mono HW.out.size)⟩
  ·have HE := Lib.hid (show decide (xs = ys) = true by simp; exact upto_eqG HL.out (fun j hj => HJ.out j (by omega)))
   go_wp2_with fail
   go_ret
   exact ⟨by rw [HE.out]; rfl, HW.out⟩
end Go.Proofs.YtppijfjigcoifaaDoor

namespace Go.Proofs.YtppijfjigcoifaaDoor
open Go.RowKit

section
variable {w0 w : World} {os : List Ob}
set_option maxHeartbeats 2000000 in
theorem Same_any {k1 k2 p1 p2 c1 c2 : Nat} {L1 L2 : List Ln} (hS : Objs w0 w os) (hk1 : os[k1]? = some (.grid p1 58 c1 L1)) (hk2 : os[k2]? = some (.grid p2 58 c2 L2)) (h1 : 0 < c1) (h2 : 0 < c2) (hn1 : L1.length ≤ 1000000) (hn2 : L2.length ≤ 1000000) (hx : ∀ l ∈ L1, l.1.length ≤ 1000000) (hy : ∀ l ∈ L2, l.1.length ≤ 1000000) :
  Calls Tryd.prog 47 #[.pointer (some ⟨p1, 0, none⟩), .pointer (some ⟨p2, 0, none⟩)] w fun e w' => e = .returned (.bool (decide (c1 = c2) && decide (L1 = L2))) ∧ Objs w0 w' os := by
 have S := Lib.hid hS
 have HK1 := Lib.hid hk1
 have HK2 := Lib.hid hk2
 have HX := Lib.hid hx
 have HY := Lib.hid hy
 clear hS hk1 hk2 hx hy
 go_enter Tryd.func47, Tryd.ntmps47
 go_wp2_with fail
 refine (none_no S.out HK1.out h1).mono ?_
 rintro e w1 ⟨rfl, hS⟩
 have S1 := Lib.hid hS
 clear hS
 go_wp2_with fail
 refine (none_no S1.out HK2.out h2).mono ?_
 rintro e w2 ⟨rfl, hS⟩
 have S2 := Lib.hid hS
 obtain ⟨A1, d1, hB1, -, hr1⟩ := hS.gridRd HK1.out
 obtain ⟨A2, d2, hB2, -, hr2⟩ := hS.gridRd HK2.out
 have R1 := Lib.hid hr1
 have R2 := Lib.hid hr2
 obtain ⟨hx1, hf1, hz1⟩ := hB1.facts
 obtain ⟨hx2, hf2, hz2⟩ := hB2.facts
 clear hS hB1 hB2 hr1 hr2
 by_cases hc : c1 = c2
 case neg =>
  have hc' : decide ((c1 : Int) = (c2 : Int)) = false := by simp; omega
  have hcb : ((c1 : Int) == (c2 : Int)) = false := by rw [beq_eq_false_iff_ne]; omega
  have HC := Lib.hid hc
  clear hc
  go_wp2_with fail
  refine wp_region_below (by kernel_rfl) (by kernel_rfl) ?_
  repeat (go_big_quiet_step (fail))
  refine wpQuiet_nil ?_
  intro w3 hb3
  have S3 := Lib.hid (S2.out.bel hb3)
  clear hx1 hf1 hz1 hx2 hf2 hz2
  go_wp2_with fail
  go_ret
  exact ⟨by rw [show decide (c1 = c2) = false by simpa using HC.out]; rfl, S3.out⟩
 subst hc
 go_wp2_with fail
 refine wp_region_below (by kernel_rfl) (by kernel_rfl) ?_
 repeat (go_big_quiet_step ((go_at_call 85; exact quiet_below (eqFunc_any A1 A2 d1 d2 L1 L2 _ (R1.out.bel (below_plus _ _)) (R2.out.bel (below_plus _ _)) hn1 hn2 HX.out HY.out))))
 refine wpQuiet_nil ?_
 intro w3 hb3
 have S3 := Lib.hid (S2.out.bel hb3)
 clear hx1 hf1 hz1 hx2 hf2 hz2
 go_wp2_with fail
 go_ret
 exact ⟨by simp, S3.out⟩
end
end Go.Proofs.YtppijfjigcoifaaDoor

namespace Go.Proofs.YtppijfjigcoifaaDoor
open Go.RowKit

def rowMod (i : Nat) (f : List Cell → List Cell) (L : List Ln) : List Ln := match L[i]? with | some l => L.set i (f l.1, l.2) | none => L
def softMod (i : Nat) (s : Bool) (L : List Ln) : List Ln := match L[i]? with | some l => L.set i (l.1, s) | none => L
theorem rowMod_some {i : Nat} {f : List Cell → List Cell} {L : List Ln} {l : Ln} (h : L[i]? = some l) : rowMod i f L = L.set i (f l.1, l.2) := by unfold rowMod; rw [h]
theorem softMod_some {i : Nat} {s : Bool} {L : List Ln} {l : Ln} (h : L[i]? = some l) : softMod i s L = L.set i (l.1, s) := by unfold softMod; rw [h]
theorem rowMod_length (i : Nat) (f : List Cell → List Cell) (L : List Ln) : (rowMod i f L).length = L.length := by unfold rowMod; split <;> simp
theorem softMod_length (i : Nat) (s : Bool) (L : List Ln) : (softMod i s L).length = L.length := by unfold softMod; split <;> simp
theorem rect_set {n i : Nat} {L : List Ln} {l : Ln} (h : Rect n L) (hl : l.1.length = n) : Rect n (L.set i l) := fun x hx => by
 rcases List.mem_or_eq_of_mem_set hx with h1 | rfl
 ·exact h x h1
 ·exact hl
theorem Rect.rowMod {n : Nat} {L : List Ln} (h : Rect n L) (i : Nat) {f : List Cell → List Cell} (hf : ∀ cs : List Cell, cs.length = n → (f cs).length = n) : Rect n (rowMod i f L) := by
 unfold Proofs.YtppijfjigcoifaaDoor.rowMod
 split
 ·rename_i l hl; exact rect_set h (hf _ (h.at_ hl))
 ·exact h
theorem Rect.softMod {n : Nat} {L : List Ln} (h : Rect n L) (i : Nat) (s : Bool) : Rect n (softMod i s L) := by
 unfold Proofs.YtppijfjigcoifaaDoor.softMod
 split
 ·rename_i l hl; exact rect_set h (show l.1.length = n from h.at_ hl)
 ·exact h
theorem Rect.mill {n : Nat} {L : List Ln} (h : Rect n L) (hn : n ≤ 1000) : ∀ l ∈ L, l.1.length ≤ 1000000 := fun l hl => by rw [h l hl]; omega
theorem get_of {α : Type} {L : List α} {i : Nat} (h : i < L.length) : ∃ l, L[i]? = some l := ⟨L[i], by simp [h]⟩
section
variable {w0 w : World} {os : List Ob} {k p cols : Nat} {L : List Ln}
theorem PutG {i j : Nat} (x : Cell) (hT : Tabs w0) (hS : Objs w0 w os) (hk : os[k]? = some (.grid p 58 cols L)) (hcm : cols ≤ 1000) (hR : Rect cols L) (hi : i < L.length) (hv : x.ok = true) (hw : ¬ x.width = 0) (hfit : (j : Int) + x.width ≤ cols) :
  Calls Tryd.prog 33 #[.pointer (some ⟨p, 0, none⟩), .int .i64 i, .int .i64 j, .agg (cv x)] w fun e w' => e = .returned (.int .i64 0) ∧ Objs w0 w' (os.set k (.grid p 58 cols (rowMod i (putC j x) L))) := by
 obtain ⟨l, hl⟩ := get_of hi
 rw [rowMod_some hl]
 have hxw : 1 ≤ x.width := by rcases ok_w12 hv hw with h | h <;> omega
 exact front_call hS hk (fun os1 h => Put_yes x hT h (by omega) hcm hl (hR.at_ hl) hv hw hfit)
theorem SetSoftG {i : Nat} (s : Bool) (hS : Objs w0 w os) (hk : os[k]? = some (.grid p 58 cols L)) (hc : 0 < cols) (hi : i < L.length) (hlen : L.length ≤ 1000000) :
  Calls Tryd.prog 46 #[.pointer (some ⟨p, 0, none⟩), .int .i64 i, .bool s] w fun e w' => e = .returned (.int .i64 0) ∧ Objs w0 w' (os.set k (.grid p 58 cols (softMod i s L))) := by
 obtain ⟨l, hl⟩ := get_of hi
 rw [softMod_some hl]
 exact front_call hS hk (fun os1 h => SetSoft_yes s h hc hl hlen)
theorem ClearG {i f t : Nat} (q : Pen) (hT : Tabs w0) (hS : Objs w0 w os) (hk : os[k]? = some (.grid p 58 cols L)) (hc : 0 < cols) (hcm : cols ≤ 1000) (hR : Rect cols L) (hi : i < L.length) (hq : q.ok = true) (hft : f ≤ t) (ht : t ≤ cols) :
  Calls Tryd.prog 51 #[.pointer (some ⟨p, 0, none⟩), .int .i64 i, .int .i64 f, .int .i64 t, .agg (pv q)] w fun e w' => e = .returned (.int .i64 0) ∧ Objs w0 w' (os.set k (.grid p 58 cols (rowMod i (clearC f t q) L))) := by
 obtain ⟨l, hl⟩ := get_of hi
 rw [rowMod_some hl]
 rcases Nat.lt_or_ge f t with h1 | h1
 ·exact front_call hS hk (fun os1 h => Clear_yes q hT h hc hcm hl (hR.at_ hl) hq h1 ht)
 ·have e : clearC f t q l.1 = l.1 := by unfold clearC; rw [if_neg (by omega)]
  rw [e, set_self hl]
  exact front_call hS hk (fun os1 h => Clear_none q hT h hc hcm (by omega) (by omega) hq)
end
end Go.Proofs.YtppijfjigcoifaaDoor

namespace Go.Proofs.YtppijfjigcoifaaDoor
open Go.RowKit

def rollK (n : Int) (many : Nat) : Nat := if -(many : Int) < n ∧ n < many then n.natAbs else many
theorem rollK_le (n : Int) (many : Nat) : rollK n many ≤ many := by unfold rollK; split <;> omega
def lastHard (S : List Ln) : List Ln := softMod (S.length - 1) false S
theorem lastHard_length (S : List Ln) : (lastHard S).length = S.length := softMod_length _ _ _
def rollIn (top bot : Nat) (L : List Ln) : List Ln := (L.drop top).take (bot + 1 - top)
def rollGone (top bot : Nat) (n : Int) (L : List Ln) : List Ln :=
 if n = 0 then [] else if 0 < n then (rollIn top bot L).take (rollK n (bot + 1 - top)) else (rollIn top bot L).drop (bot + 1 - top - rollK n (bot + 1 - top))
def rollStay (top bot : Nat) (n : Int) (L : List Ln) : List Ln :=
 if 0 < n then (rollIn top bot L).drop (rollK n (bot + 1 - top)) else (rollIn top bot L).take (bot + 1 - top - rollK n (bot + 1 - top))
def rollFresh (k cols : Nat) (q : Pen) : List Ln := List.replicate k (List.replicate cols (blank q), false)
def rollMid (top bot : Nat) (n : Int) (q : Pen) (cols : Nat) (L : List Ln) : List Ln :=
 if 0 < n then lastHard (rollStay top bot n L) ++ rollFresh (rollK n (bot + 1 - top)) cols q else rollFresh (rollK n (bot + 1 - top)) cols q ++ lastHard (rollStay top bot n L)
def topHard (top : Nat) (L : List Ln) : List Ln := if 0 < top then softMod (top - 1) false L else L
def rollL (top bot : Nat) (n : Int) (q : Pen) (cols : Nat) (L : List Ln) : List Ln :=
 if n = 0 then L else topHard top (L.take top ++ (rollMid top bot n q cols L ++ L.drop (bot + 1)))
theorem topHard_length (top : Nat) (L : List Ln) : (topHard top L).length = L.length := by unfold topHard; split; exact softMod_length _ _ _; rfl
theorem Rect.topHard {n : Nat} {L : List Ln} (h : Rect n L) (top : Nat) : Rect n (topHard top L) := by unfold Proofs.YtppijfjigcoifaaDoor.topHard; split; exact h.softMod _ _; exact h
section
variable {top bot : Nat} {n : Int} {q : Pen} {cols : Nat} {L : List Ln}
theorem rollIn_length (h1 : top ≤ bot) (h2 : bot < L.length) : (rollIn top bot L).length = bot + 1 - top := by simp [rollIn]; omega
theorem rollStay_length (h1 : top ≤ bot) (h2 : bot < L.length) : (rollStay top bot n L).length = bot + 1 - top - rollK n (bot + 1 - top) := by
 have := rollK_le n (bot + 1 - top)
 unfold rollStay
 split <;> simp [rollIn_length h1 h2]
theorem rollMid_length (h1 : top ≤ bot) (h2 : bot < L.length) : (rollMid top bot n q cols L).length = bot + 1 - top := by
 have := rollK_le n (bot + 1 - top)
 unfold rollMid
 split <;> simp [lastHard_length, rollStay_length h1 h2, rollFresh] <;> omega
theorem rollL_length (h1 : top ≤ bot) (h2 : bot < L.length) : (rollL top bot n q cols L).length = L.length := by
 unfold rollL
 split
 ·rfl
 ·rw [topHard_length]; simp [rollMid_length h1 h2]; omega
theorem Rect.part {n : Nat} {L : List Ln} (h : Rect n L) (a b : Nat) : Rect n ((L.drop a).take b) := fun l hl => h l (List.mem_of_mem_drop (List.mem_of_mem_take hl))
theorem Rect.app {n : Nat} {A B : List Ln} (h : Rect n A) (g : Rect n B) : Rect n (A ++ B) := fun l hl => (List.mem_append.1 hl).elim (h l) (g l)
theorem rect_fresh (k cols : Nat) (q : Pen) : Rect cols (rollFresh k cols q) := fun l hl => by rw [(List.mem_replicate.1 hl).2]; simp
theorem Rect.rollStay {cols : Nat} {L : List Ln} (h : Rect cols L) (top bot : Nat) (n : Int) : Rect cols (rollStay top bot n L) := by
 unfold Proofs.YtppijfjigcoifaaDoor.rollStay
 split
 ·exact fun l hl => h.part _ _ l (List.mem_of_mem_drop hl)
 ·exact fun l hl => h.part _ _ l (List.mem_of_mem_take hl)
theorem Rect.rollGone {cols : Nat} {L : List Ln} (h : Rect cols L) (top bot : Nat) (n : Int) : Rect cols (rollGone top bot n L) := by
 unfold Proofs.YtppijfjigcoifaaDoor.rollGone
 split
 ·intro l hl; simp at hl
 ·split
  ·exact fun l hl => h.part _ _ l (List.mem_of_mem_take hl)
  ·exact fun l hl => h.part _ _ l (List.mem_of_mem_drop hl)
theorem Rect.rollL {L : List Ln} (h : Rect cols L) : Rect cols (rollL top bot n q cols L) := by
 unfold Proofs.YtppijfjigcoifaaDoor.rollL
 split
 ·exact h
 ·refine Rect.topHard (Rect.app (fun l hl => h l (List.mem_of_mem_take hl)) (Rect.app ?_ (fun l hl => h l (List.mem_of_mem_drop hl)))) _
  unfold rollMid
  split
  ·exact ((h.rollStay _ _ _).softMod _ _).app (rect_fresh _ _ _)
  ·exact (rect_fresh _ _ _).app ((h.rollStay _ _ _).softMod _ _)
end
def hardR (S : List Tr) : List Tr := match S[S.length - 1]? with | some x => S.set (S.length - 1) (x.1, x.2.1, false) | none => S
theorem hardR_length (S : List Tr) : (hardR S).length = S.length := by unfold hardR; split <;> simp
theorem lnP_length (T : List Tr) : (lnP T).length = T.length := by simp [lnP]
theorem hdP_length (T : List Tr) : (hdP T).length = T.length := by simp [hdP]
theorem lnP_append (A B : List Tr) : lnP (A ++ B) = lnP A ++ lnP B := by simp [lnP]
theorem hdP_append (A B : List Tr) : hdP (A ++ B) = hdP A ++ hdP B := by simp [hdP]
theorem piP_append (A B : List Tr) : piP (A ++ B) = piP A ++ piP B := by simp [piP]
theorem lnP_hardR (S : List Tr) : lnP (hardR S) = lastHard (lnP S) := by
 unfold hardR lastHard softMod
 rw [lnP_length]
 have e : (lnP S)[S.length - 1]? = (S[S.length - 1]?).map (·.2) := by simp [lnP]
 rw [e]
 cases h : S[S.length - 1]? with
 | none => rfl
 | some x => simp only [Option.map_some]; simp [lnP]
theorem piP_hardR (S : List Tr) : piP (hardR S) = piP S := by
 unfold hardR
 split
 ·rename_i x hx
  unfold piP
  rw [List.map_set, set_self (by rw [List.getElem?_map, hx]; rfl)]
 ·rfl
theorem hdP_hardR {S : List Tr} {x : Tr} (hx : S[S.length - 1]? = some x) : hdP (hardR S) = (hdP S).set (S.length - 1) (x.1, false) := by
 unfold hardR
 rw [hx]
 simp [hdP]
section
variable {w0 w : World} {os : List Ob}
theorem Objs.deal {T G X1 F X3 : List Tr} {v vg : Value} (hp : (piP T).Perm (piP G ++ (piP X1 ++ piP X3))) (h : Objs w0 w (.pile (piP T ++ piP F) :: .heads vg (hdP G) :: .heads v (hdP (X1 ++ (F ++ X3))) :: os)) :
  Objs w0 w (.lines vg (lnP G) :: .lines v (lnP (X1 ++ (F ++ X3))) :: os) := by
 have hp2 : (piP T ++ piP F).Perm (piP G ++ piP (X1 ++ (F ++ X3))) := by
  rw [piP_append, piP_append]
  refine (hp.append_right _).trans ?_
  rw [List.append_assoc, List.append_assoc]
  exact (List.Perm.append_left _ (List.Perm.append_left _ List.perm_append_comm))
 have h1 := (h.pilePerm (k := 0) rfl hp2 : Objs w0 w (.pile (piP G ++ piP (X1 ++ (F ++ X3))) :: .heads vg (hdP G) :: .heads v (hdP (X1 ++ (F ++ X3))) :: os))
 have h2 := h1.pileSplit
 have h3 := (h2.ofHeads (k := 1) rfl : Objs w0 w (.pile (piP (X1 ++ (F ++ X3))) :: .lines vg (lnP G) :: .heads v (hdP (X1 ++ (F ++ X3))) :: os))
 exact (h3.ofHeads (k := 1) rfl : Objs w0 w (.lines vg (lnP G) :: .lines v (lnP (X1 ++ (F ++ X3))) :: os))
theorem Objs.pileMore {ps : List (Value × List Cell)} {v : Value} {cs : List Cell} (h : Objs w0 w (.cells v cs :: .pile ps :: os)) : Objs w0 w (.pile (ps ++ [(v, cs)]) :: os) :=
 ((h.pileOne (k := 0) rfl : Objs w0 w (.pile [(v, cs)] :: .pile ps :: os)).swap).pileJoin
end
theorem hdP_take (T : List Tr) (a : Nat) : (hdP T).take a = hdP (T.take a) := by simp [hdP]
theorem hdP_drop (T : List Tr) (a : Nat) : (hdP T).drop a = hdP (T.drop a) := by simp [hdP]
theorem hdP_copied (T : List Tr) (i a m : Nat) : (hdP T).take i ++ (((hdP T).drop a).take m ++ (hdP T).drop (i + m)) = hdP (T.take i) ++ (hdP ((T.drop a).take m) ++ hdP (T.drop (i + m))) := by
 rw [hdP_take, hdP_drop, hdP_take, hdP_drop]
theorem hdP_harden {A S R : List Tr} {x : Tr} (hx : S[S.length - 1]? = some x) : (hdP A ++ (hdP S ++ hdP R)).set (A.length + (S.length - 1)) (x.1, false) = hdP A ++ (hdP (hardR S) ++ hdP R) := by
 have hl : S.length - 1 < S.length := (List.getElem?_eq_some_iff.1 hx).1
 rw [List.set_append_right _ _ (by rw [hdP_length]; omega), hdP_length, Nat.add_sub_cancel_left, List.set_append_left _ _ (by rw [hdP_length]; exact hl), hdP_hardR hx]
theorem hdP_fill {X1 F R : List Tr} {a0 i : Nat} (v : Value) (cs : List Cell) (b : Bool) (h1 : X1.length = a0) (h2 : F.length = i) (h3 : i < R.length) : (hdP X1 ++ (hdP F ++ hdP (R.drop i))).set (a0 + i) (v, b) = hdP X1 ++ (hdP (F ++ [(v, cs, b)]) ++ hdP (R.drop (i + 1))) := by
 rw [List.set_append_right _ _ (by rw [hdP_length]; omega), hdP_length, h1, Nat.add_sub_cancel_left, List.set_append_right _ _ (by rw [hdP_length]; omega), hdP_length, h2, Nat.sub_self]
 rw [List.drop_eq_getElem_cons h3, hdP_append, List.append_assoc]
 rfl
section
variable {w0 w : World} {os : List Ob}
theorem Objs.pileIn {ps : List (Value × List Cell)} {v : Value} {cs : List Cell} {o1 o2 o3 o4 : Ob} (h : Objs w0 w (.cells v cs :: o1 :: o2 :: o3 :: o4 :: .pile ps :: os)) : Objs w0 w (o1 :: o2 :: o3 :: o4 :: .pile (ps ++ [(v, cs)]) :: os) :=
 (((h.lift (k := 5) rfl : Objs w0 w (.pile ps :: .cells v cs :: o1 :: o2 :: o3 :: o4 :: .none :: os)).swap).pileMore).place (k := 4) rfl
theorem Objs.dealIn {T G X1 F X3 : List Tr} {v vg : Value} {o2 o3 : Ob} (hp : (piP T).Perm (piP G ++ (piP X1 ++ piP X3))) (h : Objs w0 w (.heads v (hdP X1 ++ (hdP F ++ hdP X3)) :: o2 :: o3 :: .heads vg (hdP G) :: .pile (piP T ++ piP F) :: os)) :
  Objs w0 w (.lines vg (lnP G) :: .lines v (lnP X1 ++ (lnP F ++ lnP X3)) :: o2 :: o3 :: os) := by
 have h1 := (h.lift (k := 4) rfl : Objs w0 w (.pile (piP T ++ piP F) :: .heads v (hdP X1 ++ (hdP F ++ hdP X3)) :: o2 :: o3 :: .heads vg (hdP G) :: .none :: os))
 have h2 := (h1.lift (k := 4) rfl : Objs w0 w (.heads vg (hdP G) :: .pile (piP T ++ piP F) :: .heads v (hdP X1 ++ (hdP F ++ hdP X3)) :: o2 :: o3 :: .none :: .none :: os)).swap
 have h3 := ((h2.del 5).del 5 : Objs w0 w (.pile (piP T ++ piP F) :: .heads vg (hdP G) :: .heads v (hdP X1 ++ (hdP F ++ hdP X3)) :: o2 :: o3 :: os))
 rw [← hdP_append, ← hdP_append] at h3
 have h4 := h3.deal hp
 rw [lnP_append, lnP_append] at h4
 exact h4
end
theorem parted {α : Type} (T : List α) (a m : Nat) : T = T.take a ++ ((T.drop a).take m ++ T.drop (a + m)) := by
 conv => lhs; rw [← List.take_append_drop a T, ← List.take_append_drop m (T.drop a), List.drop_drop]
theorem lnP_take (T : List Tr) (a : Nat) : lnP (T.take a) = (lnP T).take a := by simp [lnP]
theorem lnP_drop (T : List Tr) (a : Nat) : lnP (T.drop a) = (lnP T).drop a := by simp [lnP]
section
variable {T F : List Tr} {L : List Ln} {top bot k many cols : Nat} {n : Int} {q : Pen}
theorem rollK_is (hm : many = bot + 1 - top) (hk : (n < (many : Int) ∧ -(many : Int) < n ∧ n.natAbs = k) ∨ (((many : Int) ≤ n ∨ n ≤ -(many : Int)) ∧ k = many)) : rollK n (bot + 1 - top) = k := by
 rw [← hm]; unfold rollK
 rcases hk with ⟨h1, h2, h3⟩ | ⟨h1, h2⟩
 ·rw [if_pos ⟨h2, h1⟩]; exact h3
 ·rw [if_neg (by omega)]; exact h2.symm
theorem gone_pos (hTL : lnP T = L) (hn : 0 < n) (hm : many = bot + 1 - top) (hk : rollK n (bot + 1 - top) = k) (hkm : k ≤ many) : lnP ((T.drop top).take k) = rollGone top bot n L := by
 subst hTL
 unfold rollGone rollIn
 rw [if_neg (by omega), if_pos hn, hk, ← hm, List.take_take, Nat.min_eq_left hkm, lnP_take, lnP_drop]
theorem left_pos (hTL : lnP T = L) (hn : 0 < n) (hm : many = bot + 1 - top) (htb : top ≤ bot) (hk : rollK n (bot + 1 - top) = k) (hkm : k ≤ many) (hF : lnP F = rollFresh k cols q) :
  topHard top (lnP (T.take top ++ hardR ((T.drop (top + k)).take (many - k))) ++ (lnP F ++ lnP ((T.drop (top + (many - k))).drop k))) = rollL top bot n q cols L := by
 subst hTL
 unfold rollL rollMid rollStay rollIn
 rw [if_neg (by omega), if_pos hn, if_pos hn, hk, ← hm, hF, List.drop_take, List.drop_drop, lnP_append, lnP_take, lnP_hardR, lnP_take, lnP_drop, List.drop_drop, lnP_drop, show top + (many - k) + k = bot + 1 by omega]
 simp only [List.append_assoc]
theorem perm_pos (hkm : k ≤ many) : (piP T).Perm (piP ((T.drop top).take k) ++ (piP (T.take top ++ hardR ((T.drop (top + k)).take (many - k))) ++ piP ((T.drop (top + (many - k))).drop k))) := by
 have e : T = T.take top ++ ((T.drop top).take k ++ ((T.drop (top + k)).take (many - k) ++ (T.drop (top + (many - k))).drop k)) := by
  conv => lhs; rw [parted T top k, parted (T.drop (top + k)) 0 (many - k)]
  simp [List.drop_drop, show top + k + (many - k) = top + (many - k) + k by omega]
 conv => lhs; rw [e]
 rw [piP_append, piP_append, piP_append, piP_append, piP_hardR, List.append_assoc]
 exact List.perm_append_comm_assoc _ _ _
theorem gone_neg (hTL : lnP T = L) (hn : n < 0) (hm : many = bot + 1 - top) (hk : rollK n (bot + 1 - top) = k) (hkm : k ≤ many) : lnP ((T.drop (top + (many - k))).take k) = rollGone top bot n L := by
 subst hTL
 unfold rollGone rollIn
 rw [if_neg (by omega), if_neg (by omega), hk, ← hm, List.drop_take, List.drop_drop, show many - (many - k) = k by omega, lnP_take, lnP_drop]
theorem left_neg (hTL : lnP T = L) (hn : n < 0) (hm : many = bot + 1 - top) (htb : top ≤ bot) (hk : rollK n (bot + 1 - top) = k) (hkm : k ≤ many) (hF : lnP F = rollFresh k cols q) :
  topHard top (lnP (T.take top) ++ (lnP F ++ lnP (hardR ((T.drop top).take (many - k)) ++ T.drop (top + many)))) = rollL top bot n q cols L := by
 subst hTL
 unfold rollL rollMid rollStay rollIn
 rw [if_neg (by omega), if_neg (by omega), if_neg (by omega), hk, ← hm, hF, List.take_take, Nat.min_eq_left (by omega), lnP_append, lnP_take, lnP_hardR, lnP_take, lnP_drop, lnP_drop, show top + many = bot + 1 by omega]
 simp only [List.append_assoc]
theorem perm_neg (hkm : k ≤ many) : (piP T).Perm (piP ((T.drop (top + (many - k))).take k) ++ (piP (T.take top) ++ piP (hardR ((T.drop top).take (many - k)) ++ T.drop (top + many)))) := by
 have e : T = T.take top ++ ((T.drop top).take (many - k) ++ ((T.drop (top + (many - k))).take k ++ T.drop (top + many))) := by
  conv => lhs; rw [parted T top (many - k), parted (T.drop (top + (many - k))) 0 k]
  simp [List.drop_drop, show top + (many - k) + k = top + many by omega]
 conv => lhs; rw [e]
 rw [piP_append, piP_append, piP_append, piP_append, piP_hardR]
 exact (List.Perm.append_left _ (List.perm_append_comm_assoc _ _ _)).trans (List.perm_append_comm_assoc _ _ _)
end
end Go.Proofs.YtppijfjigcoifaaDoor

namespace Go.Proofs.YtppijfjigcoifaaDoor
open Go.RowKit

section
variable {w0 w : World} {os : List Ob}
theorem ord7 {vg v p7 b7 b5 bp : Ob} (h : Objs w0 w (vg :: v :: p7 :: b7 :: b5 :: bp :: os)) : Objs w0 w (v :: b7 :: bp :: vg :: p7 :: b5 :: os) := by
 have h1 := (h.lift (k := 5) rfl : Objs w0 w (bp :: vg :: v :: p7 :: b7 :: b5 :: .none :: os)).del 6
 have h2 := ((show Objs w0 w (bp :: vg :: v :: p7 :: b7 :: b5 :: os) from h1).lift (k := 4) rfl : Objs w0 w (b7 :: bp :: vg :: v :: p7 :: .none :: b5 :: os)).del 5
 have h3 := ((show Objs w0 w (b7 :: bp :: vg :: v :: p7 :: b5 :: os) from h2).lift (k := 3) rfl : Objs w0 w (v :: b7 :: bp :: vg :: .none :: p7 :: b5 :: os)).del 4
 exact h3
theorem fin_roll {l2 o2 b5 : Ob} {p : Nat} {t : TypeId} {cols : Int} {v : Value} {L1 : List Ln} (h : Objs w0 w (l2 :: .lines v L1 :: o2 :: .box p t #[.int .i64 cols, v] :: b5 :: os)) : Objs w0 w (l2 :: .grid p t cols L1 :: os) := by
 have h1 := ((h.lift (k := 1) rfl : Objs w0 w (.lines v L1 :: l2 :: .none :: o2 :: .box p t #[.int .i64 cols, v] :: b5 :: os)).closeGrid (k := 3) rfl : Objs w0 w (l2 :: .none :: o2 :: .grid p t cols L1 :: b5 :: os))
 exact ((h1.del 1).del 1).del 2
theorem ord_roll {l2 o2 b5 op : Ob} {v : Value} {L1 : List Ln} (h : Objs w0 w (l2 :: .lines v L1 :: o2 :: op :: b5 :: os)) : Objs w0 w (.lines v L1 :: op :: b5 :: l2 :: o2 :: os) := by
 have h1 := (h.lift (k := 4) rfl : Objs w0 w (b5 :: l2 :: .lines v L1 :: o2 :: op :: .none :: os)).del 5
 have h2 := ((show Objs w0 w (b5 :: l2 :: .lines v L1 :: o2 :: op :: os) from h1).lift (k := 4) rfl : Objs w0 w (op :: b5 :: l2 :: .lines v L1 :: o2 :: .none :: os)).del 5
 have h3 := ((show Objs w0 w (op :: b5 :: l2 :: .lines v L1 :: o2 :: os) from h2).lift (k := 3) rfl : Objs w0 w (.lines v L1 :: op :: b5 :: l2 :: .none :: o2 :: os)).del 4
 exact h3
theorem fin_roll2 {l2 o2 b5 : Ob} {p : Nat} {t : TypeId} {cols : Int} {v : Value} {L1 : List Ln} (h : Objs w0 w (.lines v L1 :: .box p t #[.int .i64 cols, v] :: b5 :: l2 :: o2 :: os)) : Objs w0 w (l2 :: .grid p t cols L1 :: os) := by
 have h1 := (h.closeGrid (k := 0) rfl : Objs w0 w (.grid p t cols L1 :: b5 :: l2 :: o2 :: os))
 exact ((h1.del 1).swap).del 2
end
section
variable {w0 w : World} {os : List Ob} {p cols : Nat} {L : List Ln}
set_option maxRecDepth 100000 in
set_option maxHeartbeats 8000000 in
theorem Roll_pos {top bot k : Nat} {n : Int} (q : Pen) (hT : Tabs w0) (hS : Objs w0 w (.grid p 58 cols L :: os)) (hc : 0 < cols) (hcm : cols ≤ 1000) (hL : L.length ≤ 100000) (htb : top ≤ bot) (hbl : bot < L.length) (hq : q.ok = true) (hn : 0 < n) (hk : (n < ((bot + 1 - top : Nat) : Int) ∧ n = (k : Int)) ∨ ((((bot + 1 - top : Nat) : Int) ≤ n ∧ n ≤ 9223372036854775807) ∧ k = bot + 1 - top)) :
  Calls Tryd.prog 50 #[.pointer (some ⟨p, 0, none⟩), .agg #[.int .i64 top, .int .i64 bot], .int .i64 n, .agg (pv q)] w fun e w' => ∃ A m c, e = .returned (.tuple #[.slice A m c, .int .i64 0]) ∧ Objs w0 w' (.lines (.slice A m c) (rollGone top bot n L) :: .grid p 58 cols (rollL top bot n q cols L) :: os) := by
 have S := Lib.hid hS
 have HT := Lib.hid hT
 have HQ := Lib.hid hq
 have HK := Lib.hid hk
 obtain ⟨many, hmany⟩ : ∃ many, many = bot + 1 - top := ⟨_, rfl⟩
 have HMANY := Lib.hid hmany
 have hb0 := beq_no (show ¬ n = 0 by omega)
 have d1 : decide ((top : Int) < 0) = false := by simp
 have d2 : decide ((bot : Int) < top) = false := by simp; omega
 have d2n : decide (bot < top) = false := by simp; omega
 have d3 : decide ((L.length : Int) ≤ bot) = false := by simp; omega
 have d3n : decide (L.length ≤ bot) = false := by simp; omega
 clear hS hT hq hk hmany
 go_enter Tryd.func50, Tryd.ntmps50
 go_wp2_with fail
 refine (none_no S.out.alloc2 (k := 2) rfl hc).mono ?_
 rintro e w1 ⟨rfl, hS⟩
 generalize w.heap.size + 1 = b7 at hS ⊢
 generalize w.heap.size = b5 at hS ⊢
 obtain ⟨v, hS1⟩ := hS.openGrid (k := 2) rfl
 obtain ⟨T, hTL, hone, hS2⟩ := hS1.toHeads (k := 0) rfl
 obtain ⟨A, c, rfl, hlc, hcmx, -, hgr⟩ := hS2.headsForm (k := 1) rfl
 have hTl : (hdP T).length = L.length := by rw [hdP_length, ← hTL, lnP_length]
 rw [hTl] at hS2 hlc hgr
 obtain ⟨gr, rfl, hgz, -, -⟩ := hgr (by omega)
 have S2 := Lib.hid hS2
 obtain ⟨hx5, hf5, hz5⟩ := (hS2.box (k := 3) rfl).facts
 obtain ⟨hxp, hfp, hzp⟩ := (hS2.box (k := 4) rfl).facts
 have HTL := Lib.hid hTL
 have HTl := Lib.hid hTl
 have HONE := Lib.hid hone
 clear hS hS1 hS2 S hTL hTl hone hgr hgz
 go_wp2_with fail
 refine wp_region_below (by kernel_rfl) (by kernel_rfl) ?_
 repeat (go_big_quiet_step (fail))
 refine wpQuiet_nil ?_
 intro w2 hb2
 have S3 := Lib.hid (S2.out.bel hb2)
 clear hx5 hf5 hz5 hxp hfp hzp S2 hb2
 have hp7 := (S3.out.box (k := 2) rfl).penAt
 have hz7 := (S3.out.box (k := 2) rfl).lt
 go_wp2_with fail
 refine (inked_is HQ.out HT.out S3.out).mono ?_
 rintro e w3 ⟨rfl, hS⟩
 have S4 := Lib.hid hS
 obtain ⟨hx5, hf5, hz5⟩ := (hS.box (k := 3) rfl).facts
 obtain ⟨hxp, hfp, hzp⟩ := (hS.box (k := 4) rfl).facts
 clear hS S3 hp7 hz7
 go_wp2_with fail
 refine wp_region_below (by kernel_rfl) (by kernel_rfl) ?_
 repeat (go_big_quiet_step (fail))
 refine wpQuiet_nil ?_
 intro w4 hb4
 have S5 := Lib.hid (show Objs w0 w4 (.pile (piP T) :: .heads (.slice (some ⟨gr, 0, none⟩) L.length c) (hdP T) :: .box b7 54 (pv q) :: .box b5 106 #[.int .i64 top, .int .i64 bot] :: .box p 58 #[.int .i64 cols, .slice (some ⟨gr, 0, none⟩) L.length c] :: os) from S4.out.bel hb4)
 clear hx5 hf5 hz5 hxp hfp hzp S4 hb4
 rw [← HMANY.out]
 have hmb : many ≤ 100000 := by have := HMANY.out; omega
 have hm1 : 0 < many := by have := HMANY.out; omega
 have htm : top + many ≤ L.length := by have := HMANY.out; omega
 have hkm : k ≤ many := by have := HK.out; have := HMANY.out; omega
 have hk0 : 0 < k := by have := HK.out; have := HMANY.out; omega
 have hctop : many ≤ c - top := by omega
 have HK2 := HK.out
 rw [← HMANY.out] at HK2
 have HKK := Lib.hid (rollK_is (n := n) (k := k) HMANY.out (by rcases HK2 with ⟨a1, a2⟩ | ⟨⟨a1, a3⟩, a2⟩ <;> omega))
 have HPERM := Lib.hid (perm_pos (T := T) (top := top) hkm)
 have HGONE := Lib.hid (gone_pos HTL.out hn HMANY.out HKK.out hkm)
 have HLEFT := Lib.hid (fun (F : List Tr) (hF : lnP F = rollFresh k cols q) => left_pos HTL.out hn HMANY.out htb HKK.out hkm hF)
 obtain ⟨G, hG⟩ : ∃ G, G = (T.drop top).take k := ⟨_, rfl⟩
 obtain ⟨T1, hT1⟩ : ∃ T1, T1 = T.take top := ⟨_, rfl⟩
 obtain ⟨Sx, hSx⟩ : ∃ Sx, Sx = (T.drop (top + k)).take (many - k) := ⟨_, rfl⟩
 obtain ⟨R, hR⟩ : ∃ R, R = T.drop (top + (many - k)) := ⟨_, rfl⟩
 obtain ⟨X1, hX1⟩ : ∃ X1, X1 = T1 ++ hardR Sx := ⟨_, rfl⟩
 obtain ⟨a0, ha0⟩ : ∃ a0, a0 = top + (many - k) := ⟨_, rfl⟩
 have hTn : T.length = L.length := by have := HTl.out; rwa [hdP_length] at this
 have hT1l : T1.length = top := by rw [hT1]; simp; omega
 have hSxl : Sx.length = many - k := by rw [hSx]; simp; omega
 have hRll : R.length = L.length - a0 := by rw [hR, ha0]; simp; omega
 have HX1 := Lib.hid (show X1.length = a0 by rw [hX1, ha0]; simp [hardR_length, hT1l, hSxl])
 have HRL := Lib.hid hRll
 have hRk : k ≤ R.length := by omega
 rw [← hT1, ← hSx, ← hR, ← hX1, ← hG] at HPERM
 rw [← hT1, ← hSx, ← hR, ← hX1] at HLEFT
 rw [← hG] at HGONE
 have HG := Lib.hid hG.symm
 have HCP := Lib.hid (hdP_copied T top (top + k) (many - k))
 rw [← hT1, ← hSx, ← hR] at HCP
 have HXX := Lib.hid hX1
 have HA0 := Lib.hid ha0
 have HSXL := Lib.hid hSxl
 have HT1L := Lib.hid hT1l
 have HRLL := Lib.hid hRll
 have HPB := Lib.hid (show many = k → (hdP T).take top ++ (((hdP T).drop top).take 0 ++ (hdP T).drop (top + 0)) = hdP X1 ++ hdP R from fun e => by
  have hS0 : Sx = [] := List.eq_nil_of_length_eq_zero (by omega)
  have h := HCP.out
  rw [show many - k = 0 by omega] at h
  rw [HXX.out, hS0, hdP_append, List.append_assoc]
  rw [hS0] at h
  simp only [List.take_zero] at h ⊢
  exact h)
 clear hG hT1 hSx hR hX1 hTn hT1l hSxl hRll
 rcases HK2 with ⟨h1, h2⟩ | ⟨⟨h1, h3⟩, h2⟩
 ·subst h2
  have hmax : max (k : Int) (-(k : Int)) = (k : Int) := by omega
  have hnm : -(many : Int) < (k : Int) := by omega
  have hkl : k < many := by omega
  clear ha0
  go_wp2_with fail
  refine (clone_front S5.out.swap HONE.out (a := top) (m := k) (by rw [HTl.out]; omega) (by omega) (by rw [HTl.out]; omega)).mono ?_
  rintro e w5 ⟨Ag, cg, rfl, hS⟩
  obtain ⟨w6, hr6, hS6⟩ := run_copyH hS (k := 1) rfl HONE.out top (top + k) (many - k) (some ⟨gr, top * 2, none⟩) (some ⟨gr, top * 2 + k * 2, none⟩) many (c - top) (many - k) (c - top - k) (Nat.min_eq_left (by omega)) (by rw [HTl.out]; omega) (by rw [HTl.out]; omega) (fun _ => ⟨rfl, by rw [Nat.add_mul]⟩) 3
  have HR6 := Lib.hid hr6
  rw [hdP_drop, hdP_take, HG.out, HCP.out] at hS6
  have hS6' := (show Objs w0 w6 (.heads (.slice Ag k cg) (hdP G) :: .heads (.slice (some ⟨gr, 0, none⟩) L.length c) (hdP T1 ++ (hdP Sx ++ hdP R)) :: .pile (piP T) :: .box b7 54 (pv q) :: .box b5 106 #[.int .i64 top, .int .i64 bot] :: .box p 58 #[.int .i64 cols, .slice (some ⟨gr, 0, none⟩) L.length c] :: os) from hS6)
  have hSl := HSXL.out
  have hTl2 := HT1L.out
  obtain ⟨xs, hxs⟩ := get_of (show Sx.length - 1 < Sx.length by omega)
  have hxh : (hdP T1 ++ (hdP Sx ++ hdP R))[top + (many - k - 1)]? = some (xs.1, xs.2.2) := by
   rw [List.getElem?_append_right (by rw [hdP_length]; omega), hdP_length, hTl2, Nat.add_sub_cancel_left, List.getElem?_append_left (by rw [hdP_length]; omega), ← hSl]
   simp [hdP, hxs]
  have hS7 := hS6'.softHead (k := 1) (s := false) rfl hxh
  have hid : top + (many - k - 1) = T1.length + (Sx.length - 1) := by omega
  have he : hdP T1 ++ (hdP (hardR Sx) ++ hdP R) = hdP X1 ++ hdP R := by rw [HXX.out, hdP_append, List.append_assoc]
  rw [hid, hdP_harden hxs, he, ← hid] at hS7
  obtain ⟨A8, c8, e8, -, -, -, hg8⟩ := hS6'.headsForm (k := 1) rfl
  simp only [Value.slice.injEq] at e8
  obtain ⟨rfl, -, rfl⟩ := e8
  obtain ⟨g8, e9, hz8, hcs8, hf8⟩ := hg8 (by simp only [List.length_append, hdP_length]; omega)
  cases e9
  have hx8 := (hcs8 _ _ hxh).2
  have hadr : (top + (many - k - 1)) * 2 + 1 = top * 2 + (many - k - 1) * 2 + 1 := by omega
  rw [hadr] at hx8 hS7
  have S7 := Lib.hid (ord7 hS7)
  have HMK := Lib.hid (show many - (many - k) = k from Nat.sub_sub_self hkm)
  have HAO := HA0.out
  clear hS hr6 hS6 hS6' S5 hS7 hxh hid he hcs8 hg8 hadr hSl hTl2 hxs
  go_wp2_with (refine wpList_copyK rfl _ _ 30 30 rfl rfl rfl HR6.out ?_)
  simp only [HMK.out]
  clear hx8 hf8 hz8 hmax hnm
  go_loopw [14, 127] (fun _ vi wr => ∃ (d : Nat) (F : List Tr), d ≤ k ∧ vi = .int .i64 d ∧ (F.length = d ∧ lnP F = rollFresh d cols q) ∧ Objs w0 wr (.heads (.slice (some ⟨gr, 0, none⟩) L.length c) (hdP X1 ++ (hdP F ++ hdP (R.drop d))) :: .box b7 54 (pv q) :: .box p 58 #[.int .i64 ↑cols, .slice (some ⟨gr, 0, none⟩) L.length c] :: .heads (.slice Ag k cg) (hdP G) :: .pile (piP T ++ piP F) :: .box b5 106 #[.int .i64 ↑top, .int .i64 ↑bot] :: os)) (fun _ vi _ => k - (intOf vi).toNat)
  case atStart => exact ⟨0, [], by omega, rfl, ⟨rfl, rfl⟩, by simpa [hdP, piP] using S7.out⟩
  case round =>
   obtain ⟨d, F, hik, rfl, hFF, hS⟩ := hrel
   have HF := Lib.hid hFF
   have S8 := Lib.hid hS
   clear hFF hS S7
   by_cases hlt : d < k
   case neg =>
    have hie : d = k := by omega
    have hX := S8.out
    have hFk := HF.out.2
    rw [hie] at hX hFk
    have hX2 := hX.dealIn HPERM.out
    have HLF := Lib.hid (HLEFT.out F hFk)
    obtain ⟨L1, hL1⟩ : ∃ L1, L1 = lnP X1 ++ (lnP F ++ lnP (R.drop k)) := ⟨_, rfl⟩
    rw [← hL1] at hX2 HLF
    have hL1l : L1.length = L.length := by rw [hL1]; simp only [List.length_append, lnP_length, List.length_drop]; have := HX1.out; have := HF.out.1; have := HRL.out; omega
    have SX := Lib.hid hX2
    obtain ⟨hx5, hf5, hz5⟩ := (hX2.box (k := 4) rfl).facts
    clear hie hX hX2 hFk hL1 S8
    by_cases ht0 : top = 0
    ·have HT0 := Lib.hid (show topHard top L1 = L1 by unfold topHard; rw [if_neg (by omega)])
     have htg : ¬ (0 : Int) < (top : Int) := by omega
     have SF := Lib.hid (fin_roll SX.out)
     clear ht0
     go_wp2_with fail
     go_ret2
     exact ⟨Ag, k, cg, rfl, by rw [← HGONE.out, ← HLF.out, HT0.out]; exact SF.out⟩
    ·have htg : (0 : Int) < (top : Int) := by omega
     obtain ⟨l9, hlt1⟩ := get_of (show top - 1 < L1.length by omega)
     have HT0 := Lib.hid (show L1.set (top - 1) (l9.1, false) = topHard top L1 by unfold topHard; rw [if_pos (by omega), softMod_some hlt1])
     have HWT := Lib.hid (show IntKind.i64.wrap ((top : Int) - 1) = (top : Int) - 1 from IntWalk.i64_in _ (by omega))
     have htz : (0 : Int) ≤ (top : Int) - 1 := by omega
     have htz2 : (top : Int) - 1 < (L.length : Int) := by omega
     have htz3 : ¬ (top : Int) < 1 := by omega
     have htn : ((top : Int) - 1).toNat = top - 1 := by omega
     have SY := Lib.hid (ord_roll SX.out)
     go_upto_region 31 with (fail)
     refine wp_region_stage (w0 := w0) (os := (.lines (.slice Ag k cg) (lnP G) :: .box b7 54 (pv q) :: os)) (by kernel_rfl) (by kernel_rfl) (by kernel_rfl) [(0, 9, [], fun vs => .lines (.slice (some ⟨gr, 0, none⟩) L.length c) (L1.set (top - 1) (l9.1, false)))] [[], [], [], [1], [], [2], [], [], [], [0]] [.lines (.slice (some ⟨gr, 0, none⟩) L.length c) L1, .box p 58 #[.int .i64 ↑cols, .slice (some ⟨gr, 0, none⟩) L.length c], .box b5 106 #[.int .i64 ↑top, .int .i64 ↑bot]] (fun i u => match i with | 0 => u = .pointer (some ⟨p, 0, none⟩) | 1 => u = .pointer (some ⟨p, 0, none⟩) | 2 => u = .pointer (some ⟨p, 1, none⟩) | 3 => u = .slice (some ⟨gr, 0, none⟩) L.length c | 4 => u = .pointer (some ⟨b5, 0, none⟩) | 5 => u = .int .i64 ↑top | 6 => u = .int .i64 (↑top - 1) | 7 => u = .pointer (some ⟨gr, (top - 1) * 2, none⟩) | 8 => u = .pointer (some ⟨gr, (top - 1) * 2 + 1, none⟩) | 9 => True | _ => True) (fun vs => [.lines (.slice (some ⟨gr, 0, none⟩) L.length c) (L1.set (top - 1) (l9.1, false)), .box p 58 #[.int .i64 ↑cols, .slice (some ⟨gr, 0, none⟩) L.length c], .box b5 106 #[.int .i64 ↑top, .int .i64 ↑bot]]) (by kernel_rfl) (fun vs => by rfl) SY.out ?_ ?_
     ·apply sc
      ·intro a w' vs σ hS hl hs hk
       have f0 : a.tmps[0]?.getD undef = .pointer (some ⟨p, 0, none⟩) := sof hk
       exact rp (pt p 0) (by simp [execOp, Act.eval, f0, go_sem]) hl hs hS
      apply sc
      ·intro a w' vs σ hS hl hs hk
       have f143 : a.tmps[143]?.getD undef = .pointer (some ⟨p, 0, none⟩) := svf hk 0
       exact rp (pt p 0) (by simp [execOp, Act.eval, f143, go_sem]) hl hs hS
      apply sc
      ·intro a w' vs σ hS hl hs hk
       have f144 : a.tmps[144]?.getD undef = .pointer (some ⟨p, 0, none⟩) := svf hk 1
       exact rp (pt p 1) (by simp [execOp, Act.eval, f144, go_sem]) hl hs hS
      apply sc
      ·intro a w' vs σ hS hl hs hk
       have f145 : a.tmps[145]?.getD undef = .pointer (some ⟨p, 1, none⟩) := svf hk 2
       have hx := (hS.box (sg (hs 1 (by decide)))).cell
       exact rp (.slice (some ⟨gr, 0, none⟩) L.length c) (by simp [execOp, Act.eval, f145, go_sem, hx]) hl hs hS
      apply sc
      ·intro a w' vs σ hS hl hs hk
       have f5 : a.tmps[5]?.getD undef = .pointer (some ⟨b5, 0, none⟩) := sof hk
       exact rp (pt b5 0) (by simp [execOp, Act.eval, f5, go_sem]) hl hs hS
      apply sc
      ·intro a w' vs σ hS hl hs hk
       have f147 : a.tmps[147]?.getD undef = .pointer (some ⟨b5, 0, none⟩) := svf hk 4
       have hx := (hS.box (sg (hs 2 (by decide)))).cell
       exact rp (.int .i64 ↑top) (by simp [execOp, Act.eval, f147, go_sem, hx]) hl hs hS
      apply sc
      ·intro a w' vs σ hS hl hs hk
       have f148 : a.tmps[148]?.getD undef = .int .i64 ↑top := svf hk 5
       exact rp (.int .i64 (↑top - 1)) (by simp [execOp, Act.eval, f148, go_sem, HWT.out]) hl hs hS
      apply sc
      ·intro a w' vs σ hS hl hs hk
       have f146 : a.tmps[146]?.getD undef = .slice (some ⟨gr, 0, none⟩) L.length c := svf hk 3
       have f149 : a.tmps[149]?.getD undef = .int .i64 (↑top - 1) := svf hk 6
       exact rp (pt gr ((top - 1) * 2)) (by simp [execOp, Act.eval, f146, f149, go_sem, htz, htz2, htn, htz3]) hl hs hS
      apply sc
      ·intro a w' vs σ hS hl hs hk
       have f150 : a.tmps[150]?.getD undef = .pointer (some ⟨gr, (top - 1) * 2, none⟩) := svf hk 7
       exact rp (pt gr ((top - 1) * 2 + 1)) (by simp [execOp, Act.eval, f150, go_sem]) hl hs hS
      apply sc
      ·intro a w' vs σ hS hl hs hk
       have f151 : a.tmps[151]?.getD undef = .pointer (some ⟨gr, (top - 1) * 2 + 1, none⟩) := svf hk 8
       have h1 : σ[0]? = some (.lines (.slice (some ⟨gr, 0, none⟩) L.length c) L1) := hs 0 (by decide)
       obtain ⟨F9, bs9, hF9, -⟩ := hS.get (sg h1)
       obtain ⟨A9, c9, e9, -, -, -, hg9⟩ := hF9.form
       simp only [Value.slice.injEq] at e9
       obtain ⟨rfl, -, rfl⟩ := e9
       obtain ⟨g9, e9', hz, -, hso, hf⟩ := hg9 (by omega)
       cases e9'
       have hx := hso _ _ hlt1
       exact rstep_store (w2 := w'.setCell ⟨gr, (top - 1) * 2 + 1, none⟩ (.bool false)) (wanted_none rfl) rfl (by simp [execOp, Act.eval, f151, hx, hf, hz, go_sem]) (sp_set 0 (.lines (.slice (some ⟨gr, 0, none⟩) L.length c) (L1.set (top - 1) (l9.1, false))) (by kernel_rfl) (by simp) (by decide) hl hs (by rfl) (hS.storeSoft (sg h1) hlt1) trivial) trivial
      exact SSteps.nil
     ·intro vs w' hS hv
      have q0 : vs 0 = _ := hv 0 (by decide)
      have q1 : vs 1 = _ := hv 1 (by decide)
      have q2 : vs 2 = _ := hv 2 (by decide)
      have q3 : vs 3 = _ := hv 3 (by decide)
      have q4 : vs 4 = _ := hv 4 (by decide)
      have q5 : vs 5 = _ := hv 5 (by decide)
      have q6 : vs 6 = _ := hv 6 (by decide)
      have q7 : vs 7 = _ := hv 7 (by decide)
      have q8 : vs 8 = _ := hv 8 (by decide)
      have S2 := Lib.hid hS
      simp only [putL, Act.put, Nat.zero_add, Nat.reduceAdd, List.setIfInBounds_toArray, List.set_cons_succ, List.set_cons_zero, q0, q1, q2, q3, q4, q5, q6, q7, q8]
      clear hS hv q0 q1 q2 q3 q4 q5 q6 q7 q8
      have S9 := S2.out
      rw [HT0.out] at S9
      have SF := Lib.hid (fin_roll2 S9)
      clear S9 S2
      go_wp2_with fail
      go_ret2
      exact ⟨Ag, k, cg, rfl, by rw [← HGONE.out, ← HLF.out]; exact SF.out⟩
   have hiR : d < R.length := by omega
   have hiz : (0 : Int) ≤ (d : Int) := by omega
   have hiz2 : (d : Int) < (k : Int) := by omega
   have hoff : top * 2 + (many - k) * 2 + d * 2 = (a0 + d) * 2 := by omega
   have HHL := Lib.hid (show (hdP X1 ++ (hdP F ++ hdP (R.drop d))).length = a0 + (d + (R.length - d)) by simp only [List.length_append, hdP_length, List.length_drop, HX1.out, HF.out.1])
   have SZ := Lib.hid S8.out.pad
   clear S8
   go_upto_region 28 with (fail)
   refine wp_region_stage (w0 := w0) (os := (.heads (.slice Ag k cg) (hdP G) :: .pile (piP T ++ piP F) :: .box b5 106 #[.int .i64 ↑top, .int .i64 ↑bot] :: os)) (by kernel_rfl) (by kernel_rfl) (by kernel_rfl) [(0, 7, [7], fun vs => .cells (lineV (vs 7)) (List.replicate cols (blank q))), (1, 9, [7], fun vs => .heads (.slice (some ⟨gr, 0, none⟩) L.length c) (List.set (hdP X1 ++ (hdP F ++ hdP (R.drop d))) (a0 + d) (lineV (vs 7), false)))] [[], [], [], [], [], [3], [2], [0], [], [1]] [.none, .heads (.slice (some ⟨gr, 0, none⟩) L.length c) (hdP X1 ++ (hdP F ++ hdP (R.drop d))), .box b7 54 (pv q), .box p 58 #[.int .i64 ↑cols, .slice (some ⟨gr, 0, none⟩) L.length c]] (fun i u => match i with | 0 => u = .slice (some ⟨gr, top * 2 + (many - k) * 2, none⟩) k (c - top - (many - k)) | 1 => u = .int .i64 ↑d | 2 => u = .pointer (some ⟨p, 0, none⟩) | 3 => u = .pointer (some ⟨p, 0, none⟩) | 4 => u = .pointer (some ⟨p, 0, none⟩) | 5 => u = .int .i64 ↑cols | 6 => u = .agg (pv q) | 7 => ∃ A m c, u = .agg #[.slice A m c, .bool false] | 8 => u = .pointer (some ⟨gr, (a0 + d) * 2, none⟩) | 9 => True | _ => True) (fun vs => [.cells (lineV (vs 7)) (List.replicate cols (blank q)), .heads (.slice (some ⟨gr, 0, none⟩) L.length c) (List.set (hdP X1 ++ (hdP F ++ hdP (R.drop d))) (a0 + d) (lineV (vs 7), false)), .box b7 54 (pv q), .box p 58 #[.int .i64 ↑cols, .slice (some ⟨gr, 0, none⟩) L.length c]]) (by kernel_rfl) (fun vs => by rfl) SZ.out ?_ ?_
   ·apply sc
    ·intro a w' vs σ hS hl hs hk
     have f13 : a.tmps[13]?.getD undef = .slice (some ⟨gr, top * 2 + (many - k) * 2, none⟩) k (c - top - (many - k)) := sof hk
     exact rp (.slice (some ⟨gr, top * 2 + (many - k) * 2, none⟩) k (c - top - (many - k))) (by simp [execOp, Act.eval, f13, go_sem]) hl hs hS
    apply sc
    ·intro a w' vs σ hS hl hs hk
     have f14 : a.tmps[14]?.getD undef = .int .i64 ↑d := sof hk
     exact rp (.int .i64 ↑d) (by simp [execOp, Act.eval, f14, go_sem]) hl hs hS
    apply sc
    ·intro a w' vs σ hS hl hs hk
     have f0 : a.tmps[0]?.getD undef = .pointer (some ⟨p, 0, none⟩) := sof hk
     exact rp (pt p 0) (by simp [execOp, Act.eval, f0, go_sem]) hl hs hS
    apply sc
    ·intro a w' vs σ hS hl hs hk
     have f132 : a.tmps[132]?.getD undef = .pointer (some ⟨p, 0, none⟩) := svf hk 2
     exact rp (pt p 0) (by simp [execOp, Act.eval, f132, go_sem]) hl hs hS
    apply sc
    ·intro a w' vs σ hS hl hs hk
     have f133 : a.tmps[133]?.getD undef = .pointer (some ⟨p, 0, none⟩) := svf hk 3
     exact rp (pt p 0) (by simp [execOp, Act.eval, f133, go_sem]) hl hs hS
    apply sc
    ·intro a w' vs σ hS hl hs hk
     have f134 : a.tmps[134]?.getD undef = .pointer (some ⟨p, 0, none⟩) := svf hk 4
     have hx := (hS.box (sg (hs 3 (by decide)))).cell
     exact rp (.int .i64 ↑cols) (by simp [execOp, Act.eval, f134, go_sem, hx]) hl hs hS
    apply sc
    ·intro a w' vs σ hS hl hs hk
     have f7 : a.tmps[7]?.getD undef = .pointer (some ⟨b7, 0, none⟩) := sof hk
     have hx := (hS.box (sg (hs 2 (by decide)))).penAt
     exact rp (.agg (pv q)) (by simp [execOp, Act.eval, f7, go_sem, hx]) hl hs hS
    apply sc
    ·intro a w' vs σ hS hl hs hk
     have e135 : a.tmps.getD 135 undef = .int .i64 ↑cols := svv hk 5
     have e136 : a.tmps.getD 136 undef = .agg (pv q) := svv hk 6
     have h0 : σ[0]? = some .none := hs 0 (by decide)
     exact ro_call (f := 54) (wanted_none rfl) rfl (by simp only [List.map_toArray, List.map_cons, List.map_nil, Act.eval, e135, e136] <;> rfl) (fun _ _ => by kernel_rfl) ((gridblanks_any cols hcm q _ _ _ hS).mono fun e w2 ⟨x, h1, h2⟩ => ⟨_, h1, sp_set 0 (.cells x (List.replicate cols (blank q))) (by kernel_rfl) (by simp) (by decide) hl hs (by rfl) (h2.place (sg h0)) (by obtain ⟨A', c', e, -⟩ := h2.cellsRd (k := 0) rfl; exact ⟨A', _, c', by rw [e]⟩), trivial⟩)
    apply sc
    ·intro a w' vs σ hS hl hs hk
     have f130 : a.tmps[130]?.getD undef = .slice (some ⟨gr, top * 2 + (many - k) * 2, none⟩) k (c - top - (many - k)) := svf hk 0
     have f131 : a.tmps[131]?.getD undef = .int .i64 ↑d := svf hk 1
     exact rp (pt gr ((a0 + d) * 2)) (by simp [execOp, Act.eval, f130, f131, go_sem, hiz, hiz2, hoff]) hl hs hS
    apply sc
    ·intro a w' vs σ hS hl hs hk
     have f138 : a.tmps[138]?.getD undef = .pointer (some ⟨gr, (a0 + d) * 2, none⟩) := svf hk 8
     have e137 : a.tmps.getD 137 undef = vs 7 := sk_val hk 7 (by kernel_rfl) rfl rfl
     have p137 : (fun u : Value => ∃ A m c, u = .agg #[.slice A m c, .bool false]) (vs 7) := (hk.1 7 (by kernel_rfl)).1
     have f137 := gd e137
     obtain ⟨A7, n7, c7, q7⟩ := p137
     have h1 : σ[1]? = some (.heads (.slice (some ⟨gr, 0, none⟩) L.length c) (hdP X1 ++ (hdP F ++ hdP (R.drop d)))) := hs 1 (by decide)
     obtain ⟨A8, c8, e8, -, -, -, hg8⟩ := hS.headsForm (sg h1)
     simp only [Value.slice.injEq] at e8
     obtain ⟨rfl, -, rfl⟩ := e8
     have hHl := HHL.out
     obtain ⟨g8, e9, hz, hcs, hf⟩ := hg8 (by omega)
     cases e9
     obtain ⟨x8, hx8⟩ := get_of (show a0 + d < (hdP X1 ++ (hdP F ++ hdP (R.drop d))).length by omega)
     obtain ⟨hx, hx'⟩ := hcs (a0 + d) x8 hx8
     exact rstep_store (w2 := (w'.setCell ⟨gr, (a0 + d) * 2, none⟩ (.slice A7 n7 c7)).setCell ⟨gr, (a0 + d) * 2 + 1, none⟩ (.bool false)) (wanted_none rfl) rfl (by simp [execOp, Act.eval, f138, e137, f137, q7, hx, hx', hf, hz, go_sem]) (sp_set 1 (.heads (.slice (some ⟨gr, 0, none⟩) L.length c) (List.set (hdP X1 ++ (hdP F ++ hdP (R.drop d))) (a0 + d) (.slice A7 n7 c7, false))) (by kernel_rfl) (by simp) (by decide) hl hs (by show Ob.heads _ (List.set _ _ (lineV (vs 7), false)) = _; rw [q7]; rfl) (hS.storeHead (sg h1)) trivial) trivial
    exact SSteps.nil
   ·intro vs w' hS hv
    have q0 : vs 0 = _ := hv 0 (by decide)
    have q1 : vs 1 = _ := hv 1 (by decide)
    have q2 : vs 2 = _ := hv 2 (by decide)
    have q3 : vs 3 = _ := hv 3 (by decide)
    have q4 : vs 4 = _ := hv 4 (by decide)
    have q5 : vs 5 = _ := hv 5 (by decide)
    have q6 : vs 6 = _ := hv 6 (by decide)
    have q8 : vs 8 = _ := hv 8 (by decide)
    obtain ⟨A7, n7, c7, q7⟩ := (show ∃ A m c, vs 7 = .agg #[.slice A m c, .bool false] from hv 7 (by decide))
    rw [q7] at hS
    have S2 := Lib.hid hS
    simp only [putL, Act.put, Nat.zero_add, Nat.reduceAdd, List.setIfInBounds_toArray, List.set_cons_succ, List.set_cons_zero, q0, q1, q2, q3, q4, q5, q6, q8]
    clear hS hv q0 q1 q2 q3 q4 q5 q6 q8
    simp only [q7]
    have S9 := S2.out
    rw [show lineV (.agg #[.slice A7 n7 c7, .bool false]) = .slice A7 n7 c7 from rfl, hdP_fill (.slice A7 n7 c7) (List.replicate cols (blank q)) false HX1.out HF.out.1 hiR] at S9
    have S10 := Lib.hid (show Objs w0 w' (.heads (.slice (some ⟨gr, 0, none⟩) L.length c) (hdP X1 ++ (hdP (F ++ [(.slice A7 n7 c7, (List.replicate cols (blank q)), false)]) ++ hdP (R.drop (d + 1)))) :: .box b7 54 (pv q) :: .box p 58 #[.int .i64 ↑cols, .slice (some ⟨gr, 0, none⟩) L.length c] :: .heads (.slice Ag k cg) (hdP G) :: .pile (piP T ++ piP (F ++ [(.slice A7 n7 c7, (List.replicate cols (blank q)), false)])) :: .box b5 106 #[.int .i64 ↑top, .int .i64 ↑bot] :: os) from by have := Objs.pileIn S9; rw [List.append_assoc] at this; rw [piP_append]; exact this)
    clear S9 S2
    go_wp2_with fail
    go_roundw
    case rel => exact ⟨d + 1, F ++ [(.slice A7 n7 c7, (List.replicate cols (blank q)), false)], by omega, by go_num, ⟨by simp [HF.out.1], by rw [lnP_append, HF.out.2]; unfold rollFresh; rw [List.replicate_succ']; rfl⟩, S10.out⟩
    case measure => simp [intOf]; omega
 ·have hnl : ¬ n < (many : Int) := by omega
  subst h2
  have HPB2 := Lib.hid (HPB.out rfl)
  clear HPB
  clear ha0
  by_cases hcap : c - top = k
  ·go_wp2_with fail
   refine (clone_front S5.out.swap HONE.out (a := top) (m := k) (by rw [HTl.out]; omega) (by omega) (by rw [HTl.out]; omega)).mono ?_
   rintro e w5 ⟨Ag, cg, rfl, hS⟩
   obtain ⟨w6, hr6, hS6⟩ := run_copyH hS (k := 1) rfl HONE.out top top 0 (some ⟨gr, top * 2, none⟩) (some ⟨gr, top * 2, none⟩) k (k) 0 (0) (Nat.zero_min _) (by rw [HTl.out]; omega) (by rw [HTl.out]; omega) (fun h => absurd h (by omega)) 3
   have HR6 := Lib.hid hr6
   rw [hdP_drop T top, hdP_take, HG.out, ← hdP_drop T top, HPB2.out] at hS6
   have S7 := Lib.hid (ord7 (show Objs w0 w6 (.heads (.slice Ag k cg) (hdP G) :: .heads (.slice (some ⟨gr, 0, none⟩) L.length c) (hdP X1 ++ hdP R) :: .pile (piP T) :: .box b7 54 (pv q) :: .box b5 106 #[.int .i64 top, .int .i64 bot] :: .box p 58 #[.int .i64 cols, .slice (some ⟨gr, 0, none⟩) L.length c] :: os) from hS6))
   have HAO := HA0.out
   clear hS hr6 hS6 S5
   go_wp2_with (refine wpList_copyK rfl _ _ 30 30 rfl rfl rfl HR6.out ?_)
   go_loopw [14, 127] (fun _ vi wr => ∃ (d : Nat) (F : List Tr), d ≤ k ∧ vi = .int .i64 d ∧ (F.length = d ∧ lnP F = rollFresh d cols q) ∧ Objs w0 wr (.heads (.slice (some ⟨gr, 0, none⟩) L.length c) (hdP X1 ++ (hdP F ++ hdP (R.drop d))) :: .box b7 54 (pv q) :: .box p 58 #[.int .i64 ↑cols, .slice (some ⟨gr, 0, none⟩) L.length c] :: .heads (.slice Ag k cg) (hdP G) :: .pile (piP T ++ piP F) :: .box b5 106 #[.int .i64 ↑top, .int .i64 ↑bot] :: os)) (fun _ vi _ => k - (intOf vi).toNat)
   case atStart => exact ⟨0, [], by omega, rfl, ⟨rfl, rfl⟩, by simpa [hdP, piP] using S7.out⟩
   case round =>
    obtain ⟨d, F, hik, rfl, hFF, hS⟩ := hrel
    have HF := Lib.hid hFF
    have S8 := Lib.hid hS
    clear hFF hS S7
    by_cases hlt : d < k
    case neg =>
     have hie : d = k := by omega
     have hX := S8.out
     have hFk := HF.out.2
     rw [hie] at hX hFk
     have hX2 := hX.dealIn HPERM.out
     have HLF := Lib.hid (HLEFT.out F hFk)
     obtain ⟨L1, hL1⟩ : ∃ L1, L1 = lnP X1 ++ (lnP F ++ lnP (R.drop k)) := ⟨_, rfl⟩
     rw [← hL1] at hX2 HLF
     have hL1l : L1.length = L.length := by rw [hL1]; simp only [List.length_append, lnP_length, List.length_drop]; have := HX1.out; have := HF.out.1; have := HRL.out; omega
     have SX := Lib.hid hX2
     obtain ⟨hx5, hf5, hz5⟩ := (hX2.box (k := 4) rfl).facts
     clear hie hX hX2 hFk hL1 S8
     by_cases ht0 : top = 0
     ·have HT0 := Lib.hid (show topHard top L1 = L1 by unfold topHard; rw [if_neg (by omega)])
      have htg : ¬ (0 : Int) < (top : Int) := by omega
      have SF := Lib.hid (fin_roll SX.out)
      clear ht0
      go_wp2_with fail
      go_ret2
      exact ⟨Ag, k, cg, rfl, by rw [← HGONE.out, ← HLF.out, HT0.out]; exact SF.out⟩
     ·have htg : (0 : Int) < (top : Int) := by omega
      obtain ⟨l9, hlt1⟩ := get_of (show top - 1 < L1.length by omega)
      have HT0 := Lib.hid (show L1.set (top - 1) (l9.1, false) = topHard top L1 by unfold topHard; rw [if_pos (by omega), softMod_some hlt1])
      have HWT := Lib.hid (show IntKind.i64.wrap ((top : Int) - 1) = (top : Int) - 1 from IntWalk.i64_in _ (by omega))
      have htz : (0 : Int) ≤ (top : Int) - 1 := by omega
      have htz2 : (top : Int) - 1 < (L.length : Int) := by omega
      have htz3 : ¬ (top : Int) < 1 := by omega
      have htn : ((top : Int) - 1).toNat = top - 1 := by omega
      have SY := Lib.hid (ord_roll SX.out)
      go_upto_region 31 with (fail)
      refine wp_region_stage (w0 := w0) (os := (.lines (.slice Ag k cg) (lnP G) :: .box b7 54 (pv q) :: os)) (by kernel_rfl) (by kernel_rfl) (by kernel_rfl) [(0, 9, [], fun vs => .lines (.slice (some ⟨gr, 0, none⟩) L.length c) (L1.set (top - 1) (l9.1, false)))] [[], [], [], [1], [], [2], [], [], [], [0]] [.lines (.slice (some ⟨gr, 0, none⟩) L.length c) L1, .box p 58 #[.int .i64 ↑cols, .slice (some ⟨gr, 0, none⟩) L.length c], .box b5 106 #[.int .i64 ↑top, .int .i64 ↑bot]] (fun i u => match i with | 0 => u = .pointer (some ⟨p, 0, none⟩) | 1 => u = .pointer (some ⟨p, 0, none⟩) | 2 => u = .pointer (some ⟨p, 1, none⟩) | 3 => u = .slice (some ⟨gr, 0, none⟩) L.length c | 4 => u = .pointer (some ⟨b5, 0, none⟩) | 5 => u = .int .i64 ↑top | 6 => u = .int .i64 (↑top - 1) | 7 => u = .pointer (some ⟨gr, (top - 1) * 2, none⟩) | 8 => u = .pointer (some ⟨gr, (top - 1) * 2 + 1, none⟩) | 9 => True | _ => True) (fun vs => [.lines (.slice (some ⟨gr, 0, none⟩) L.length c) (L1.set (top - 1) (l9.1, false)), .box p 58 #[.int .i64 ↑cols, .slice (some ⟨gr, 0, none⟩) L.length c], .box b5 106 #[.int .i64 ↑top, .int .i64 ↑bot]]) (by kernel_rfl) (fun vs => by rfl) SY.out ?_ ?_
      ·apply sc
       ·intro a w' vs σ hS hl hs hk
        have f0 : a.tmps[0]?.getD undef = .pointer (some ⟨p, 0, none⟩) := sof hk
        exact rp (pt p 0) (by simp [execOp, Act.eval, f0, go_sem]) hl hs hS
       apply sc
       ·intro a w' vs σ hS hl hs hk
        have f143 : a.tmps[143]?.getD undef = .pointer (some ⟨p, 0, none⟩) := svf hk 0
        exact rp (pt p 0) (by simp [execOp, Act.eval, f143, go_sem]) hl hs hS
       apply sc
       ·intro a w' vs σ hS hl hs hk
        have f144 : a.tmps[144]?.getD undef = .pointer (some ⟨p, 0, none⟩) := svf hk 1
        exact rp (pt p 1) (by simp [execOp, Act.eval, f144, go_sem]) hl hs hS
       apply sc
       ·intro a w' vs σ hS hl hs hk
        have f145 : a.tmps[145]?.getD undef = .pointer (some ⟨p, 1, none⟩) := svf hk 2
        have hx := (hS.box (sg (hs 1 (by decide)))).cell
        exact rp (.slice (some ⟨gr, 0, none⟩) L.length c) (by simp [execOp, Act.eval, f145, go_sem, hx]) hl hs hS
       apply sc
       ·intro a w' vs σ hS hl hs hk
        have f5 : a.tmps[5]?.getD undef = .pointer (some ⟨b5, 0, none⟩) := sof hk
        exact rp (pt b5 0) (by simp [execOp, Act.eval, f5, go_sem]) hl hs hS
       apply sc
       ·intro a w' vs σ hS hl hs hk
        have f147 : a.tmps[147]?.getD undef = .pointer (some ⟨b5, 0, none⟩) := svf hk 4
        have hx := (hS.box (sg (hs 2 (by decide)))).cell
        exact rp (.int .i64 ↑top) (by simp [execOp, Act.eval, f147, go_sem, hx]) hl hs hS
       apply sc
       ·intro a w' vs σ hS hl hs hk
        have f148 : a.tmps[148]?.getD undef = .int .i64 ↑top := svf hk 5
        exact rp (.int .i64 (↑top - 1)) (by simp [execOp, Act.eval, f148, go_sem, HWT.out]) hl hs hS
       apply sc
       ·intro a w' vs σ hS hl hs hk
        have f146 : a.tmps[146]?.getD undef = .slice (some ⟨gr, 0, none⟩) L.length c := svf hk 3
        have f149 : a.tmps[149]?.getD undef = .int .i64 (↑top - 1) := svf hk 6
        exact rp (pt gr ((top - 1) * 2)) (by simp [execOp, Act.eval, f146, f149, go_sem, htz, htz2, htn, htz3]) hl hs hS
       apply sc
       ·intro a w' vs σ hS hl hs hk
        have f150 : a.tmps[150]?.getD undef = .pointer (some ⟨gr, (top - 1) * 2, none⟩) := svf hk 7
        exact rp (pt gr ((top - 1) * 2 + 1)) (by simp [execOp, Act.eval, f150, go_sem]) hl hs hS
       apply sc
       ·intro a w' vs σ hS hl hs hk
        have f151 : a.tmps[151]?.getD undef = .pointer (some ⟨gr, (top - 1) * 2 + 1, none⟩) := svf hk 8
        have h1 : σ[0]? = some (.lines (.slice (some ⟨gr, 0, none⟩) L.length c) L1) := hs 0 (by decide)
        obtain ⟨F9, bs9, hF9, -⟩ := hS.get (sg h1)
        obtain ⟨A9, c9, e9, -, -, -, hg9⟩ := hF9.form
        simp only [Value.slice.injEq] at e9
        obtain ⟨rfl, -, rfl⟩ := e9
        obtain ⟨g9, e9', hz, -, hso, hf⟩ := hg9 (by omega)
        cases e9'
        have hx := hso _ _ hlt1
        exact rstep_store (w2 := w'.setCell ⟨gr, (top - 1) * 2 + 1, none⟩ (.bool false)) (wanted_none rfl) rfl (by simp [execOp, Act.eval, f151, hx, hf, hz, go_sem]) (sp_set 0 (.lines (.slice (some ⟨gr, 0, none⟩) L.length c) (L1.set (top - 1) (l9.1, false))) (by kernel_rfl) (by simp) (by decide) hl hs (by rfl) (hS.storeSoft (sg h1) hlt1) trivial) trivial
       exact SSteps.nil
      ·intro vs w' hS hv
       have q0 : vs 0 = _ := hv 0 (by decide)
       have q1 : vs 1 = _ := hv 1 (by decide)
       have q2 : vs 2 = _ := hv 2 (by decide)
       have q3 : vs 3 = _ := hv 3 (by decide)
       have q4 : vs 4 = _ := hv 4 (by decide)
       have q5 : vs 5 = _ := hv 5 (by decide)
       have q6 : vs 6 = _ := hv 6 (by decide)
       have q7 : vs 7 = _ := hv 7 (by decide)
       have q8 : vs 8 = _ := hv 8 (by decide)
       have S2 := Lib.hid hS
       simp only [putL, Act.put, Nat.zero_add, Nat.reduceAdd, List.setIfInBounds_toArray, List.set_cons_succ, List.set_cons_zero, q0, q1, q2, q3, q4, q5, q6, q7, q8]
       clear hS hv q0 q1 q2 q3 q4 q5 q6 q7 q8
       have S9 := S2.out
       rw [HT0.out] at S9
       have SF := Lib.hid (fin_roll2 S9)
       clear S9 S2
       go_wp2_with fail
       go_ret2
       exact ⟨Ag, k, cg, rfl, by rw [← HGONE.out, ← HLF.out]; exact SF.out⟩
    have hiR : d < R.length := by omega
    have hiz : (0 : Int) ≤ (d : Int) := by omega
    have hiz2 : (d : Int) < (k : Int) := by omega
    have hoff : top * 2 + d * 2 = (a0 + d) * 2 := by omega
    have HHL := Lib.hid (show (hdP X1 ++ (hdP F ++ hdP (R.drop d))).length = a0 + (d + (R.length - d)) by simp only [List.length_append, hdP_length, List.length_drop, HX1.out, HF.out.1])
    have SZ := Lib.hid S8.out.pad
    clear S8
    go_upto_region 28 with (fail)
    refine wp_region_stage (w0 := w0) (os := (.heads (.slice Ag k cg) (hdP G) :: .pile (piP T ++ piP F) :: .box b5 106 #[.int .i64 ↑top, .int .i64 ↑bot] :: os)) (by kernel_rfl) (by kernel_rfl) (by kernel_rfl) [(0, 7, [7], fun vs => .cells (lineV (vs 7)) (List.replicate cols (blank q))), (1, 9, [7], fun vs => .heads (.slice (some ⟨gr, 0, none⟩) L.length c) (List.set (hdP X1 ++ (hdP F ++ hdP (R.drop d))) (a0 + d) (lineV (vs 7), false)))] [[], [], [], [], [], [3], [2], [0], [], [1]] [.none, .heads (.slice (some ⟨gr, 0, none⟩) L.length c) (hdP X1 ++ (hdP F ++ hdP (R.drop d))), .box b7 54 (pv q), .box p 58 #[.int .i64 ↑cols, .slice (some ⟨gr, 0, none⟩) L.length c]] (fun i u => match i with | 0 => u = .slice (some ⟨gr, top * 2, none⟩) k (k) | 1 => u = .int .i64 ↑d | 2 => u = .pointer (some ⟨p, 0, none⟩) | 3 => u = .pointer (some ⟨p, 0, none⟩) | 4 => u = .pointer (some ⟨p, 0, none⟩) | 5 => u = .int .i64 ↑cols | 6 => u = .agg (pv q) | 7 => ∃ A m c, u = .agg #[.slice A m c, .bool false] | 8 => u = .pointer (some ⟨gr, (a0 + d) * 2, none⟩) | 9 => True | _ => True) (fun vs => [.cells (lineV (vs 7)) (List.replicate cols (blank q)), .heads (.slice (some ⟨gr, 0, none⟩) L.length c) (List.set (hdP X1 ++ (hdP F ++ hdP (R.drop d))) (a0 + d) (lineV (vs 7), false)), .box b7 54 (pv q), .box p 58 #[.int .i64 ↑cols, .slice (some ⟨gr, 0, none⟩) L.length c]]) (by kernel_rfl) (fun vs => by rfl) SZ.out ?_ ?_
    ·apply sc
     ·intro a w' vs σ hS hl hs hk
      have f13 : a.tmps[13]?.getD undef = .slice (some ⟨gr, top * 2, none⟩) k (k) := sof hk
      exact rp (.slice (some ⟨gr, top * 2, none⟩) k (k)) (by simp [execOp, Act.eval, f13, go_sem]) hl hs hS
     apply sc
     ·intro a w' vs σ hS hl hs hk
      have f14 : a.tmps[14]?.getD undef = .int .i64 ↑d := sof hk
      exact rp (.int .i64 ↑d) (by simp [execOp, Act.eval, f14, go_sem]) hl hs hS
     apply sc
     ·intro a w' vs σ hS hl hs hk
      have f0 : a.tmps[0]?.getD undef = .pointer (some ⟨p, 0, none⟩) := sof hk
      exact rp (pt p 0) (by simp [execOp, Act.eval, f0, go_sem]) hl hs hS
     apply sc
     ·intro a w' vs σ hS hl hs hk
      have f132 : a.tmps[132]?.getD undef = .pointer (some ⟨p, 0, none⟩) := svf hk 2
      exact rp (pt p 0) (by simp [execOp, Act.eval, f132, go_sem]) hl hs hS
     apply sc
     ·intro a w' vs σ hS hl hs hk
      have f133 : a.tmps[133]?.getD undef = .pointer (some ⟨p, 0, none⟩) := svf hk 3
      exact rp (pt p 0) (by simp [execOp, Act.eval, f133, go_sem]) hl hs hS
     apply sc
     ·intro a w' vs σ hS hl hs hk
      have f134 : a.tmps[134]?.getD undef = .pointer (some ⟨p, 0, none⟩) := svf hk 4
      have hx := (hS.box (sg (hs 3 (by decide)))).cell
      exact rp (.int .i64 ↑cols) (by simp [execOp, Act.eval, f134, go_sem, hx]) hl hs hS
     apply sc
     ·intro a w' vs σ hS hl hs hk
      have f7 : a.tmps[7]?.getD undef = .pointer (some ⟨b7, 0, none⟩) := sof hk
      have hx := (hS.box (sg (hs 2 (by decide)))).penAt
      exact rp (.agg (pv q)) (by simp [execOp, Act.eval, f7, go_sem, hx]) hl hs hS
     apply sc
     ·intro a w' vs σ hS hl hs hk
      have e135 : a.tmps.getD 135 undef = .int .i64 ↑cols := svv hk 5
      have e136 : a.tmps.getD 136 undef = .agg (pv q) := svv hk 6
      have h0 : σ[0]? = some .none := hs 0 (by decide)
      exact ro_call (f := 54) (wanted_none rfl) rfl (by simp only [List.map_toArray, List.map_cons, List.map_nil, Act.eval, e135, e136] <;> rfl) (fun _ _ => by kernel_rfl) ((gridblanks_any cols hcm q _ _ _ hS).mono fun e w2 ⟨x, h1, h2⟩ => ⟨_, h1, sp_set 0 (.cells x (List.replicate cols (blank q))) (by kernel_rfl) (by simp) (by decide) hl hs (by rfl) (h2.place (sg h0)) (by obtain ⟨A', c', e, -⟩ := h2.cellsRd (k := 0) rfl; exact ⟨A', _, c', by rw [e]⟩), trivial⟩)
     apply sc
     ·intro a w' vs σ hS hl hs hk
      have f130 : a.tmps[130]?.getD undef = .slice (some ⟨gr, top * 2, none⟩) k (k) := svf hk 0
      have f131 : a.tmps[131]?.getD undef = .int .i64 ↑d := svf hk 1
      exact rp (pt gr ((a0 + d) * 2)) (by simp [execOp, Act.eval, f130, f131, go_sem, hiz, hiz2, hoff]) hl hs hS
     apply sc
     ·intro a w' vs σ hS hl hs hk
      have f138 : a.tmps[138]?.getD undef = .pointer (some ⟨gr, (a0 + d) * 2, none⟩) := svf hk 8
      have e137 : a.tmps.getD 137 undef = vs 7 := sk_val hk 7 (by kernel_rfl) rfl rfl
      have p137 : (fun u : Value => ∃ A m c, u = .agg #[.slice A m c, .bool false]) (vs 7) := (hk.1 7 (by kernel_rfl)).1
      have f137 := gd e137
      obtain ⟨A7, n7, c7, q7⟩ := p137
      have h1 : σ[1]? = some (.heads (.slice (some ⟨gr, 0, none⟩) L.length c) (hdP X1 ++ (hdP F ++ hdP (R.drop d)))) := hs 1 (by decide)
      obtain ⟨A8, c8, e8, -, -, -, hg8⟩ := hS.headsForm (sg h1)
      simp only [Value.slice.injEq] at e8
      obtain ⟨rfl, -, rfl⟩ := e8
      have hHl := HHL.out
      obtain ⟨g8, e9, hz, hcs, hf⟩ := hg8 (by omega)
      cases e9
      obtain ⟨x8, hx8⟩ := get_of (show a0 + d < (hdP X1 ++ (hdP F ++ hdP (R.drop d))).length by omega)
      obtain ⟨hx, hx'⟩ := hcs (a0 + d) x8 hx8
      exact rstep_store (w2 := (w'.setCell ⟨gr, (a0 + d) * 2, none⟩ (.slice A7 n7 c7)).setCell ⟨gr, (a0 + d) * 2 + 1, none⟩ (.bool false)) (wanted_none rfl) rfl (by simp [execOp, Act.eval, f138, e137, f137, q7, hx, hx', hf, hz, go_sem]) (sp_set 1 (.heads (.slice (some ⟨gr, 0, none⟩) L.length c) (List.set (hdP X1 ++ (hdP F ++ hdP (R.drop d))) (a0 + d) (.slice A7 n7 c7, false))) (by kernel_rfl) (by simp) (by decide) hl hs (by show Ob.heads _ (List.set _ _ (lineV (vs 7), false)) = _; rw [q7]; rfl) (hS.storeHead (sg h1)) trivial) trivial
     exact SSteps.nil
    ·intro vs w' hS hv
     have q0 : vs 0 = _ := hv 0 (by decide)
     have q1 : vs 1 = _ := hv 1 (by decide)
     have q2 : vs 2 = _ := hv 2 (by decide)
     have q3 : vs 3 = _ := hv 3 (by decide)
     have q4 : vs 4 = _ := hv 4 (by decide)
     have q5 : vs 5 = _ := hv 5 (by decide)
     have q6 : vs 6 = _ := hv 6 (by decide)
     have q8 : vs 8 = _ := hv 8 (by decide)
     obtain ⟨A7, n7, c7, q7⟩ := (show ∃ A m c, vs 7 = .agg #[.slice A m c, .bool false] from hv 7 (by decide))
     rw [q7] at hS
     have S2 := Lib.hid hS
     simp only [putL, Act.put, Nat.zero_add, Nat.reduceAdd, List.setIfInBounds_toArray, List.set_cons_succ, List.set_cons_zero, q0, q1, q2, q3, q4, q5, q6, q8]
     clear hS hv q0 q1 q2 q3 q4 q5 q6 q8
     simp only [q7]
     have S9 := S2.out
     rw [show lineV (.agg #[.slice A7 n7 c7, .bool false]) = .slice A7 n7 c7 from rfl, hdP_fill (.slice A7 n7 c7) (List.replicate cols (blank q)) false HX1.out HF.out.1 hiR] at S9
     have S10 := Lib.hid (show Objs w0 w' (.heads (.slice (some ⟨gr, 0, none⟩) L.length c) (hdP X1 ++ (hdP (F ++ [(.slice A7 n7 c7, (List.replicate cols (blank q)), false)]) ++ hdP (R.drop (d + 1)))) :: .box b7 54 (pv q) :: .box p 58 #[.int .i64 ↑cols, .slice (some ⟨gr, 0, none⟩) L.length c] :: .heads (.slice Ag k cg) (hdP G) :: .pile (piP T ++ piP (F ++ [(.slice A7 n7 c7, (List.replicate cols (blank q)), false)])) :: .box b5 106 #[.int .i64 ↑top, .int .i64 ↑bot] :: os) from by have := Objs.pileIn S9; rw [List.append_assoc] at this; rw [piP_append]; exact this)
     clear S9 S2
     go_wp2_with fail
     go_roundw
     case rel => exact ⟨d + 1, F ++ [(.slice A7 n7 c7, (List.replicate cols (blank q)), false)], by omega, by go_num, ⟨by simp [HF.out.1], by rw [lnP_append, HF.out.2]; unfold rollFresh; rw [List.replicate_succ']; rfl⟩, S10.out⟩
     case measure => simp [intOf]; omega
  ·go_wp2_with fail
   refine (clone_front S5.out.swap HONE.out (a := top) (m := k) (by rw [HTl.out]; omega) (by omega) (by rw [HTl.out]; omega)).mono ?_
   rintro e w5 ⟨Ag, cg, rfl, hS⟩
   obtain ⟨w6, hr6, hS6⟩ := run_copyH hS (k := 1) rfl HONE.out top top 0 (some ⟨gr, top * 2, none⟩) (some ⟨gr, top * 2 + k * 2, none⟩) k (c - top) 0 (c - top - k) (Nat.zero_min _) (by rw [HTl.out]; omega) (by rw [HTl.out]; omega) (fun h => absurd h (by omega)) 3
   have HR6 := Lib.hid hr6
   rw [hdP_drop T top, hdP_take, HG.out, ← hdP_drop T top, HPB2.out] at hS6
   have S7 := Lib.hid (ord7 (show Objs w0 w6 (.heads (.slice Ag k cg) (hdP G) :: .heads (.slice (some ⟨gr, 0, none⟩) L.length c) (hdP X1 ++ hdP R) :: .pile (piP T) :: .box b7 54 (pv q) :: .box b5 106 #[.int .i64 top, .int .i64 bot] :: .box p 58 #[.int .i64 cols, .slice (some ⟨gr, 0, none⟩) L.length c] :: os) from hS6))
   have HAO := HA0.out
   clear hS hr6 hS6 S5
   go_wp2_with (refine wpList_copyK rfl _ _ 30 30 rfl rfl rfl HR6.out ?_)
   go_loopw [14, 127] (fun _ vi wr => ∃ (d : Nat) (F : List Tr), d ≤ k ∧ vi = .int .i64 d ∧ (F.length = d ∧ lnP F = rollFresh d cols q) ∧ Objs w0 wr (.heads (.slice (some ⟨gr, 0, none⟩) L.length c) (hdP X1 ++ (hdP F ++ hdP (R.drop d))) :: .box b7 54 (pv q) :: .box p 58 #[.int .i64 ↑cols, .slice (some ⟨gr, 0, none⟩) L.length c] :: .heads (.slice Ag k cg) (hdP G) :: .pile (piP T ++ piP F) :: .box b5 106 #[.int .i64 ↑top, .int .i64 ↑bot] :: os)) (fun _ vi _ => k - (intOf vi).toNat)
   case atStart => exact ⟨0, [], by omega, rfl, ⟨rfl, rfl⟩, by simpa [hdP, piP] using S7.out⟩
   case round =>
    obtain ⟨d, F, hik, rfl, hFF, hS⟩ := hrel
    have HF := Lib.hid hFF
    have S8 := Lib.hid hS
    clear hFF hS S7
    by_cases hlt : d < k
    case neg =>
     have hie : d = k := by omega
     have hX := S8.out
     have hFk := HF.out.2
     rw [hie] at hX hFk
     have hX2 := hX.dealIn HPERM.out
     have HLF := Lib.hid (HLEFT.out F hFk)
     obtain ⟨L1, hL1⟩ : ∃ L1, L1 = lnP X1 ++ (lnP F ++ lnP (R.drop k)) := ⟨_, rfl⟩
     rw [← hL1] at hX2 HLF
     have hL1l : L1.length = L.length := by rw [hL1]; simp only [List.length_append, lnP_length, List.length_drop]; have := HX1.out; have := HF.out.1; have := HRL.out; omega
     have SX := Lib.hid hX2
     obtain ⟨hx5, hf5, hz5⟩ := (hX2.box (k := 4) rfl).facts
     clear hie hX hX2 hFk hL1 S8
     by_cases ht0 : top = 0
     ·have HT0 := Lib.hid (show topHard top L1 = L1 by unfold topHard; rw [if_neg (by omega)])
      have htg : ¬ (0 : Int) < (top : Int) := by omega
      have SF := Lib.hid (fin_roll SX.out)
      clear ht0
      go_wp2_with fail
      go_ret2
      exact ⟨Ag, k, cg, rfl, by rw [← HGONE.out, ← HLF.out, HT0.out]; exact SF.out⟩
     ·have htg : (0 : Int) < (top : Int) := by omega
      obtain ⟨l9, hlt1⟩ := get_of (show top - 1 < L1.length by omega)
      have HT0 := Lib.hid (show L1.set (top - 1) (l9.1, false) = topHard top L1 by unfold topHard; rw [if_pos (by omega), softMod_some hlt1])
      have HWT := Lib.hid (show IntKind.i64.wrap ((top : Int) - 1) = (top : Int) - 1 from IntWalk.i64_in _ (by omega))
      have htz : (0 : Int) ≤ (top : Int) - 1 := by omega
      have htz2 : (top : Int) - 1 < (L.length : Int) := by omega
      have htz3 : ¬ (top : Int) < 1 := by omega
      have htn : ((top : Int) - 1).toNat = top - 1 := by omega
      have SY := Lib.hid (ord_roll SX.out)
      go_upto_region 31 with (fail)
      refine wp_region_stage (w0 := w0) (os := (.lines (.slice Ag k cg) (lnP G) :: .box b7 54 (pv q) :: os)) (by kernel_rfl) (by kernel_rfl) (by kernel_rfl) [(0, 9, [], fun vs => .lines (.slice (some ⟨gr, 0, none⟩) L.length c) (L1.set (top - 1) (l9.1, false)))] [[], [], [], [1], [], [2], [], [], [], [0]] [.lines (.slice (some ⟨gr, 0, none⟩) L.length c) L1, .box p 58 #[.int .i64 ↑cols, .slice (some ⟨gr, 0, none⟩) L.length c], .box b5 106 #[.int .i64 ↑top, .int .i64 ↑bot]] (fun i u => match i with | 0 => u = .pointer (some ⟨p, 0, none⟩) | 1 => u = .pointer (some ⟨p, 0, none⟩) | 2 => u = .pointer (some ⟨p, 1, none⟩) | 3 => u = .slice (some ⟨gr, 0, none⟩) L.length c | 4 => u = .pointer (some ⟨b5, 0, none⟩) | 5 => u = .int .i64 ↑top | 6 => u = .int .i64 (↑top - 1) | 7 => u = .pointer (some ⟨gr, (top - 1) * 2, none⟩) | 8 => u = .pointer (some ⟨gr, (top - 1) * 2 + 1, none⟩) | 9 => True | _ => True) (fun vs => [.lines (.slice (some ⟨gr, 0, none⟩) L.length c) (L1.set (top - 1) (l9.1, false)), .box p 58 #[.int .i64 ↑cols, .slice (some ⟨gr, 0, none⟩) L.length c], .box b5 106 #[.int .i64 ↑top, .int .i64 ↑bot]]) (by kernel_rfl) (fun vs => by rfl) SY.out ?_ ?_
      ·apply sc
       ·intro a w' vs σ hS hl hs hk
        have f0 : a.tmps[0]?.getD undef = .pointer (some ⟨p, 0, none⟩) := sof hk
        exact rp (pt p 0) (by simp [execOp, Act.eval, f0, go_sem]) hl hs hS
       apply sc
       ·intro a w' vs σ hS hl hs hk
        have f143 : a.tmps[143]?.getD undef = .pointer (some ⟨p, 0, none⟩) := svf hk 0
        exact rp (pt p 0) (by simp [execOp, Act.eval, f143, go_sem]) hl hs hS
       apply sc
       ·intro a w' vs σ hS hl hs hk
        have f144 : a.tmps[144]?.getD undef = .pointer (some ⟨p, 0, none⟩) := svf hk 1
        exact rp (pt p 1) (by simp [execOp, Act.eval, f144, go_sem]) hl hs hS
       apply sc
       ·intro a w' vs σ hS hl hs hk
        have f145 : a.tmps[145]?.getD undef = .pointer (some ⟨p, 1, none⟩) := svf hk 2
        have hx := (hS.box (sg (hs 1 (by decide)))).cell
        exact rp (.slice (some ⟨gr, 0, none⟩) L.length c) (by simp [execOp, Act.eval, f145, go_sem, hx]) hl hs hS
       apply sc
       ·intro a w' vs σ hS hl hs hk
        have f5 : a.tmps[5]?.getD undef = .pointer (some ⟨b5, 0, none⟩) := sof hk
        exact rp (pt b5 0) (by simp [execOp, Act.eval, f5, go_sem]) hl hs hS
       apply sc
       ·intro a w' vs σ hS hl hs hk
        have f147 : a.tmps[147]?.getD undef = .pointer (some ⟨b5, 0, none⟩) := svf hk 4
        have hx := (hS.box (sg (hs 2 (by decide)))).cell
        exact rp (.int .i64 ↑top) (by simp [execOp, Act.eval, f147, go_sem, hx]) hl hs hS
       apply sc
       ·intro a w' vs σ hS hl hs hk
        have f148 : a.tmps[148]?.getD undef = .int .i64 ↑top := svf hk 5
        exact rp (.int .i64 (↑top - 1)) (by simp [execOp, Act.eval, f148, go_sem, HWT.out]) hl hs hS
       apply sc
       ·intro a w' vs σ hS hl hs hk
        have f146 : a.tmps[146]?.getD undef = .slice (some ⟨gr, 0, none⟩) L.length c := svf hk 3
        have f149 : a.tmps[149]?.getD undef = .int .i64 (↑top - 1) := svf hk 6
        exact rp (pt gr ((top - 1) * 2)) (by simp [execOp, Act.eval, f146, f149, go_sem, htz, htz2, htn, htz3]) hl hs hS
       apply sc
       ·intro a w' vs σ hS hl hs hk
        have f150 : a.tmps[150]?.getD undef = .pointer (some ⟨gr, (top - 1) * 2, none⟩) := svf hk 7
        exact rp (pt gr ((top - 1) * 2 + 1)) (by simp [execOp, Act.eval, f150, go_sem]) hl hs hS
       apply sc
       ·intro a w' vs σ hS hl hs hk
        have f151 : a.tmps[151]?.getD undef = .pointer (some ⟨gr, (top - 1) * 2 + 1, none⟩) := svf hk 8
        have h1 : σ[0]? = some (.lines (.slice (some ⟨gr, 0, none⟩) L.length c) L1) := hs 0 (by decide)
        obtain ⟨F9, bs9, hF9, -⟩ := hS.get (sg h1)
        obtain ⟨A9, c9, e9, -, -, -, hg9⟩ := hF9.form
        simp only [Value.slice.injEq] at e9
        obtain ⟨rfl, -, rfl⟩ := e9
        obtain ⟨g9, e9', hz, -, hso, hf⟩ := hg9 (by omega)
        cases e9'
        have hx := hso _ _ hlt1
        exact rstep_store (w2 := w'.setCell ⟨gr, (top - 1) * 2 + 1, none⟩ (.bool false)) (wanted_none rfl) rfl (by simp [execOp, Act.eval, f151, hx, hf, hz, go_sem]) (sp_set 0 (.lines (.slice (some ⟨gr, 0, none⟩) L.length c) (L1.set (top - 1) (l9.1, false))) (by kernel_rfl) (by simp) (by decide) hl hs (by rfl) (hS.storeSoft (sg h1) hlt1) trivial) trivial
       exact SSteps.nil
      ·intro vs w' hS hv
       have q0 : vs 0 = _ := hv 0 (by decide)
       have q1 : vs 1 = _ := hv 1 (by decide)
       have q2 : vs 2 = _ := hv 2 (by decide)
       have q3 : vs 3 = _ := hv 3 (by decide)
       have q4 : vs 4 = _ := hv 4 (by decide)
       have q5 : vs 5 = _ := hv 5 (by decide)
       have q6 : vs 6 = _ := hv 6 (by decide)
       have q7 : vs 7 = _ := hv 7 (by decide)
       have q8 : vs 8 = _ := hv 8 (by decide)
       have S2 := Lib.hid hS
       simp only [putL, Act.put, Nat.zero_add, Nat.reduceAdd, List.setIfInBounds_toArray, List.set_cons_succ, List.set_cons_zero, q0, q1, q2, q3, q4, q5, q6, q7, q8]
       clear hS hv q0 q1 q2 q3 q4 q5 q6 q7 q8
       have S9 := S2.out
       rw [HT0.out] at S9
       have SF := Lib.hid (fin_roll2 S9)
       clear S9 S2
       go_wp2_with fail
       go_ret2
       exact ⟨Ag, k, cg, rfl, by rw [← HGONE.out, ← HLF.out]; exact SF.out⟩
    have hiR : d < R.length := by omega
    have hiz : (0 : Int) ≤ (d : Int) := by omega
    have hiz2 : (d : Int) < (k : Int) := by omega
    have hoff : top * 2 + d * 2 = (a0 + d) * 2 := by omega
    have HHL := Lib.hid (show (hdP X1 ++ (hdP F ++ hdP (R.drop d))).length = a0 + (d + (R.length - d)) by simp only [List.length_append, hdP_length, List.length_drop, HX1.out, HF.out.1])
    have SZ := Lib.hid S8.out.pad
    clear S8
    go_upto_region 28 with (fail)
    refine wp_region_stage (w0 := w0) (os := (.heads (.slice Ag k cg) (hdP G) :: .pile (piP T ++ piP F) :: .box b5 106 #[.int .i64 ↑top, .int .i64 ↑bot] :: os)) (by kernel_rfl) (by kernel_rfl) (by kernel_rfl) [(0, 7, [7], fun vs => .cells (lineV (vs 7)) (List.replicate cols (blank q))), (1, 9, [7], fun vs => .heads (.slice (some ⟨gr, 0, none⟩) L.length c) (List.set (hdP X1 ++ (hdP F ++ hdP (R.drop d))) (a0 + d) (lineV (vs 7), false)))] [[], [], [], [], [], [3], [2], [0], [], [1]] [.none, .heads (.slice (some ⟨gr, 0, none⟩) L.length c) (hdP X1 ++ (hdP F ++ hdP (R.drop d))), .box b7 54 (pv q), .box p 58 #[.int .i64 ↑cols, .slice (some ⟨gr, 0, none⟩) L.length c]] (fun i u => match i with | 0 => u = .slice (some ⟨gr, top * 2, none⟩) k (c - top) | 1 => u = .int .i64 ↑d | 2 => u = .pointer (some ⟨p, 0, none⟩) | 3 => u = .pointer (some ⟨p, 0, none⟩) | 4 => u = .pointer (some ⟨p, 0, none⟩) | 5 => u = .int .i64 ↑cols | 6 => u = .agg (pv q) | 7 => ∃ A m c, u = .agg #[.slice A m c, .bool false] | 8 => u = .pointer (some ⟨gr, (a0 + d) * 2, none⟩) | 9 => True | _ => True) (fun vs => [.cells (lineV (vs 7)) (List.replicate cols (blank q)), .heads (.slice (some ⟨gr, 0, none⟩) L.length c) (List.set (hdP X1 ++ (hdP F ++ hdP (R.drop d))) (a0 + d) (lineV (vs 7), false)), .box b7 54 (pv q), .box p 58 #[.int .i64 ↑cols, .slice (some ⟨gr, 0, none⟩) L.length c]]) (by kernel_rfl) (fun vs => by rfl) SZ.out ?_ ?_
    ·apply sc
     ·intro a w' vs σ hS hl hs hk
      have f13 : a.tmps[13]?.getD undef = .slice (some ⟨gr, top * 2, none⟩) k (c - top) := sof hk
      exact rp (.slice (some ⟨gr, top * 2, none⟩) k (c - top)) (by simp [execOp, Act.eval, f13, go_sem]) hl hs hS
     apply sc
     ·intro a w' vs σ hS hl hs hk
      have f14 : a.tmps[14]?.getD undef = .int .i64 ↑d := sof hk
      exact rp (.int .i64 ↑d) (by simp [execOp, Act.eval, f14, go_sem]) hl hs hS
     apply sc
     ·intro a w' vs σ hS hl hs hk
      have f0 : a.tmps[0]?.getD undef = .pointer (some ⟨p, 0, none⟩) := sof hk
      exact rp (pt p 0) (by simp [execOp, Act.eval, f0, go_sem]) hl hs hS
     apply sc
     ·intro a w' vs σ hS hl hs hk
      have f132 : a.tmps[132]?.getD undef = .pointer (some ⟨p, 0, none⟩) := svf hk 2
      exact rp (pt p 0) (by simp [execOp, Act.eval, f132, go_sem]) hl hs hS
     apply sc
     ·intro a w' vs σ hS hl hs hk
      have f133 : a.tmps[133]?.getD undef = .pointer (some ⟨p, 0, none⟩) := svf hk 3
      exact rp (pt p 0) (by simp [execOp, Act.eval, f133, go_sem]) hl hs hS
     apply sc
     ·intro a w' vs σ hS hl hs hk
      have f134 : a.tmps[134]?.getD undef = .pointer (some ⟨p, 0, none⟩) := svf hk 4
      have hx := (hS.box (sg (hs 3 (by decide)))).cell
      exact rp (.int .i64 ↑cols) (by simp [execOp, Act.eval, f134, go_sem, hx]) hl hs hS
     apply sc
     ·intro a w' vs σ hS hl hs hk
      have f7 : a.tmps[7]?.getD undef = .pointer (some ⟨b7, 0, none⟩) := sof hk
      have hx := (hS.box (sg (hs 2 (by decide)))).penAt
      exact rp (.agg (pv q)) (by simp [execOp, Act.eval, f7, go_sem, hx]) hl hs hS
     apply sc
     ·intro a w' vs σ hS hl hs hk
      have e135 : a.tmps.getD 135 undef = .int .i64 ↑cols := svv hk 5
      have e136 : a.tmps.getD 136 undef = .agg (pv q) := svv hk 6
      have h0 : σ[0]? = some .none := hs 0 (by decide)
      exact ro_call (f := 54) (wanted_none rfl) rfl (by simp only [List.map_toArray, List.map_cons, List.map_nil, Act.eval, e135, e136] <;> rfl) (fun _ _ => by kernel_rfl) ((gridblanks_any cols hcm q _ _ _ hS).mono fun e w2 ⟨x, h1, h2⟩ => ⟨_, h1, sp_set 0 (.cells x (List.replicate cols (blank q))) (by kernel_rfl) (by simp) (by decide) hl hs (by rfl) (h2.place (sg h0)) (by obtain ⟨A', c', e, -⟩ := h2.cellsRd (k := 0) rfl; exact ⟨A', _, c', by rw [e]⟩), trivial⟩)
     apply sc
     ·intro a w' vs σ hS hl hs hk
      have f130 : a.tmps[130]?.getD undef = .slice (some ⟨gr, top * 2, none⟩) k (c - top) := svf hk 0
      have f131 : a.tmps[131]?.getD undef = .int .i64 ↑d := svf hk 1
      exact rp (pt gr ((a0 + d) * 2)) (by simp [execOp, Act.eval, f130, f131, go_sem, hiz, hiz2, hoff]) hl hs hS
     apply sc
     ·intro a w' vs σ hS hl hs hk
      have f138 : a.tmps[138]?.getD undef = .pointer (some ⟨gr, (a0 + d) * 2, none⟩) := svf hk 8
      have e137 : a.tmps.getD 137 undef = vs 7 := sk_val hk 7 (by kernel_rfl) rfl rfl
      have p137 : (fun u : Value => ∃ A m c, u = .agg #[.slice A m c, .bool false]) (vs 7) := (hk.1 7 (by kernel_rfl)).1
      have f137 := gd e137
      obtain ⟨A7, n7, c7, q7⟩ := p137
      have h1 : σ[1]? = some (.heads (.slice (some ⟨gr, 0, none⟩) L.length c) (hdP X1 ++ (hdP F ++ hdP (R.drop d)))) := hs 1 (by decide)
      obtain ⟨A8, c8, e8, -, -, -, hg8⟩ := hS.headsForm (sg h1)
      simp only [Value.slice.injEq] at e8
      obtain ⟨rfl, -, rfl⟩ := e8
      have hHl := HHL.out
      obtain ⟨g8, e9, hz, hcs, hf⟩ := hg8 (by omega)
      cases e9
      obtain ⟨x8, hx8⟩ := get_of (show a0 + d < (hdP X1 ++ (hdP F ++ hdP (R.drop d))).length by omega)
      obtain ⟨hx, hx'⟩ := hcs (a0 + d) x8 hx8
      exact rstep_store (w2 := (w'.setCell ⟨gr, (a0 + d) * 2, none⟩ (.slice A7 n7 c7)).setCell ⟨gr, (a0 + d) * 2 + 1, none⟩ (.bool false)) (wanted_none rfl) rfl (by simp [execOp, Act.eval, f138, e137, f137, q7, hx, hx', hf, hz, go_sem]) (sp_set 1 (.heads (.slice (some ⟨gr, 0, none⟩) L.length c) (List.set (hdP X1 ++ (hdP F ++ hdP (R.drop d))) (a0 + d) (.slice A7 n7 c7, false))) (by kernel_rfl) (by simp) (by decide) hl hs (by show Ob.heads _ (List.set _ _ (lineV (vs 7), false)) = _; rw [q7]; rfl) (hS.storeHead (sg h1)) trivial) trivial
     exact SSteps.nil
    ·intro vs w' hS hv
     have q0 : vs 0 = _ := hv 0 (by decide)
     have q1 : vs 1 = _ := hv 1 (by decide)
     have q2 : vs 2 = _ := hv 2 (by decide)
     have q3 : vs 3 = _ := hv 3 (by decide)
     have q4 : vs 4 = _ := hv 4 (by decide)
     have q5 : vs 5 = _ := hv 5 (by decide)
     have q6 : vs 6 = _ := hv 6 (by decide)
     have q8 : vs 8 = _ := hv 8 (by decide)
     obtain ⟨A7, n7, c7, q7⟩ := (show ∃ A m c, vs 7 = .agg #[.slice A m c, .bool false] from hv 7 (by decide))
     rw [q7] at hS
     have S2 := Lib.hid hS
     simp only [putL, Act.put, Nat.zero_add, Nat.reduceAdd, List.setIfInBounds_toArray, List.set_cons_succ, List.set_cons_zero, q0, q1, q2, q3, q4, q5, q6, q8]
     clear hS hv q0 q1 q2 q3 q4 q5 q6 q8
     simp only [q7]
     have S9 := S2.out
     rw [show lineV (.agg #[.slice A7 n7 c7, .bool false]) = .slice A7 n7 c7 from rfl, hdP_fill (.slice A7 n7 c7) (List.replicate cols (blank q)) false HX1.out HF.out.1 hiR] at S9
     have S10 := Lib.hid (show Objs w0 w' (.heads (.slice (some ⟨gr, 0, none⟩) L.length c) (hdP X1 ++ (hdP (F ++ [(.slice A7 n7 c7, (List.replicate cols (blank q)), false)]) ++ hdP (R.drop (d + 1)))) :: .box b7 54 (pv q) :: .box p 58 #[.int .i64 ↑cols, .slice (some ⟨gr, 0, none⟩) L.length c] :: .heads (.slice Ag k cg) (hdP G) :: .pile (piP T ++ piP (F ++ [(.slice A7 n7 c7, (List.replicate cols (blank q)), false)])) :: .box b5 106 #[.int .i64 ↑top, .int .i64 ↑bot] :: os) from by have := Objs.pileIn S9; rw [List.append_assoc] at this; rw [piP_append]; exact this)
     clear S9 S2
     go_wp2_with fail
     go_roundw
     case rel => exact ⟨d + 1, F ++ [(.slice A7 n7 c7, (List.replicate cols (blank q)), false)], by omega, by go_num, ⟨by simp [HF.out.1], by rw [lnP_append, HF.out.2]; unfold rollFresh; rw [List.replicate_succ']; rfl⟩, S10.out⟩
     case measure => simp [intOf]; omega
end
end Go.Proofs.YtppijfjigcoifaaDoor
