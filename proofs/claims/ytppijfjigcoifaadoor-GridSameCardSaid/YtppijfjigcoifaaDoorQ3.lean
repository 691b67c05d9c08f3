/-
  Part 3 of the texts on which the proofs of this seat stand: each part says ahead of it what it shows.
-/
import Derived.Test.YtppijfjigcoifaaDoorQ2
import Derived.Lib.MinMax
set_option linter.unusedSimpArgs false
set_option linter.unusedVariables false
namespace Go.Proofs.YtppijfjigcoifaaDoor
open Go.RowKit

def putC (j : Nat) (x : Cell) (cs : List Cell) : List Cell :=
 let l := (brk (j + x.width.toNat) (brk j cs)).set j x
 if x.width = 2 then l.set (j + 1) (spacer x.pen) else l
theorem putC_length (j : Nat) (x : Cell) (cs : List Cell) : (putC j x cs).length = cs.length := by
 unfold putC
 simp only
 split <;> simp [brk_length]
theorem ok_w12 {x : Cell} (h : x.ok = true) (h0 : ¬ x.width = 0) : x.width = 1 ∨ x.width = 2 := by
 rcases ok_width h with h1 | h1 | h1
 ·exact absurd h1 h0
 ·exact .inl h1
 ·exact .inr h1
section
variable {w0 w : World} {os : List Ob} {p cols : Nat} {L : List Ln}
theorem Objs.openAt {t : TypeId} {cols : Int} {i : Nat} {l : Ln} (h : Objs w0 w (.grid p t cols L :: os)) (hl : L[i]? = some l) : ∃ v b, Objs w0 w (.cells b l.1 :: .linesx v L i b :: .box p t #[.int .i64 cols, v] :: os) := by
 obtain ⟨v, h1⟩ := h.openGrid (k := 0) rfl
 obtain ⟨b, h2⟩ := h1.openRow (k := 0) rfl hl
 exact ⟨v, b, h2⟩
theorem Objs.closeAt {t : TypeId} {cols : Int} {v b : Value} {i : Nat} {l : Ln} {cs : List Cell} (h : Objs w0 w (.cells b cs :: .linesx v L i b :: .box p t #[.int .i64 cols, v] :: os)) (hl : L[i]? = some l) : Objs w0 w (.grid p t cols (L.set i (cs, l.2)) :: os) := by
 have h1 := h.closeRow (k := 0) (s := l.2) rfl (by rw [hl]; rfl)
 exact (h1 : Objs w0 w (.lines v _ :: .box p t _ :: os)).closeGrid (k := 0) rfl
theorem Objs.swap {a b : Ob} (h : Objs w0 w (a :: b :: os)) : Objs w0 w (b :: a :: os) := by
 have h1 := h.lift (k := 1) (o := b) rfl
 exact h1.del 2
set_option maxHeartbeats 400000 in
theorem Put_out (row col : Int) (x : Cell) (hS : Objs w0 w (.grid p 58 cols L :: os)) (hc : 0 < cols) (hno : ¬ ((0 ≤ row ∧ row < L.length) ∧ 0 ≤ col ∧ col < cols)) :
  Calls Tryd.prog 33 #[.pointer (some ⟨p, 0, none⟩), .int .i64 row, .int .i64 col, .agg (cv x)] w fun e w' => e = .returned (.int .i64 3) ∧ Objs w0 w' (.grid p 58 cols L :: os) := by
 have S := Lib.hid hS
 have HE := Lib.hid (show atE row col cols L = 3 by unfold atE; rw [if_neg hno])
 clear hS hno
 go_enter Tryd.func33, Tryd.ntmps33
 go_wp2_with fail
 refine (at_any _ _ S.out.alloc1 (k := 1) rfl hc).mono ?_
 rw [HE.out]
 rintro e w1 ⟨rfl, hS⟩
 have S1 := Lib.hid hS
 clear hS S
 go_wp2_with fail
 go_ret
 exact ⟨rfl, S1.out.tail⟩
set_option maxRecDepth 100000 in
set_option maxHeartbeats 2000000 in
theorem Put_bad1 {i j : Nat} (x : Cell) (hT : Tabs w0) (hS : Objs w0 w (.grid p 58 cols L :: os)) (hc : 0 < cols) (hcm : cols ≤ 1000) (hi : i < L.length) (hj : j < cols) (hv : x.ok = false) :
  Calls Tryd.prog 33 #[.pointer (some ⟨p, 0, none⟩), .int .i64 i, .int .i64 j, .agg (cv x)] w fun e w' => e = .returned (.int .i64 2) ∧ Objs w0 w' (.grid p 58 cols L :: os) := by
 have S := Lib.hid hS
 have HT := Lib.hid hT
 have HE := Lib.hid (show atE i j cols L = 0 by unfold atE; rw [if_pos ⟨⟨by omega, by omega⟩, by omega, by omega⟩])
 clear hS hT
 have HV := Lib.hid hv
 clear hv
 go_enter Tryd.func33, Tryd.ntmps33
 go_wp2_with fail
 refine (at_any _ _ S.out.alloc1 (k := 1) rfl hc).mono ?_
 rw [HE.out]
 rintro e w1 ⟨rfl, hS⟩
 have S1 := Lib.hid hS
 clear hS S
 generalize w.heap.size = b7 at S1 ⊢
 go_upto_region 4 with (fail)
 refine wp_region_stage (w0 := w0) (os := os) (by kernel_rfl) (by kernel_rfl) (by kernel_rfl) [] [[0], [], [], [], [], [], [], [], [], [], [], [], [], [], [], [], [], [], []] [.box b7 71 (cv x), .grid p 58 cols L] (fun i u => match i with | 0 => u = .agg (cv x) | 1 => u = .bool false | 2 => u = .bool true | 3 => u = .bool true | 4 => True | 5 => True | 6 => True | 7 => u = .bool true | 8 => u = .bool true | 9 => True | 10 => True | 11 => True | 12 => True | 13 => True | 14 => True | 15 => True | 16 => True | 17 => True | 18 => u = .bool true | _ => True) (fun vs => [.box b7 71 (cv x), .grid p 58 cols L]) (by kernel_rfl) (fun vs => by rfl) S1.out ?_ ?_
 ·apply sc
  ·intro a w' vs σ hS hl hs hk
   have f7 : a.tmps[7]?.getD undef = .pointer (some ⟨b7, 0, none⟩) := sof hk
   have hx := (hS.box (sg (hs 0 (by decide)))).box.2.2.2.1
   exact rp (.agg (cv x)) (by simp [execOp, Act.eval, f7, go_sem, hx]) hl hs hS
  apply sc
  ·intro a w' vs σ hS hl hs hk
   have e18 : a.tmps.getD 18 undef = .agg (cv x) := sv hk 0
   exact ro_call (f := 72) (wanted_none rfl) rfl (by simp only [List.map_toArray, List.map_cons, List.map_nil, Act.eval, e18] <;> rfl) (fun _ _ => by kernel_rfl) ((valid_no HV.out w' (hS.tabs HT.out)).mono fun e w2 ⟨h1, h2⟩ => ⟨_, h1, sp_same (by kernel_rfl) hl hs (hS.bel h2) rfl, trivial⟩)
  apply sc
  ·intro a w' vs σ hS hl hs hk
   have f19 : a.tmps[19]?.getD undef = .bool false := sf hk 1
   exact rp (.bool true) (by simp [execOp, Act.eval, f19, go_sem]) hl hs hS
  apply sc
  ·intro a w' vs σ hS hl hs hk
   have f20 : a.tmps[20]?.getD undef = .bool true := sf hk 2
   exact rp (.bool true) (by simp [execOp, Act.eval, f20, go_sem]) hl hs hS
  apply sc
  ·intro a w' vs σ hS hl hs hk
   exact rs_skip (wanted_no rfl rfl rfl (sv hk 3) (by decide)) (sp_same (by kernel_rfl) hl hs hS trivial)
  apply sc
  ·intro a w' vs σ hS hl hs hk
   exact rs_skip (wanted_no rfl rfl rfl (sv hk 3) (by decide)) (sp_same (by kernel_rfl) hl hs hS trivial)
  apply sc
  ·intro a w' vs σ hS hl hs hk
   exact rs_skip (wanted_no rfl rfl rfl (sv hk 3) (by decide)) (sp_same (by kernel_rfl) hl hs hS trivial)
  apply sc
  ·intro a w' vs σ hS hl hs hk
   have f21 : a.tmps[21]?.getD undef = .bool true := sf hk 3
   have e24 : a.tmps.getD 24 undef = vs 6 := sk_val hk 6 (by kernel_rfl) rfl rfl
   have p24 : (fun u : Value => True) (vs 6) := (hk.1 6 (by kernel_rfl)).1
   have f24 := gd e24
   exact rp (.bool true) (by simp [execOp, Act.eval, f21, e24, f24, go_sem]) hl hs hS
  apply sc
  ·intro a w' vs σ hS hl hs hk
   have f25 : a.tmps[25]?.getD undef = .bool true := sf hk 7
   exact rp (.bool true) (by simp [execOp, Act.eval, f25, go_sem]) hl hs hS
  apply sc
  ·intro a w' vs σ hS hl hs hk
   exact rs_skip (wanted_no rfl rfl rfl (sv hk 8) (by decide)) (sp_same (by kernel_rfl) hl hs hS trivial)
  apply sc
  ·intro a w' vs σ hS hl hs hk
   exact rs_skip (wanted_no rfl rfl rfl (sv hk 8) (by decide)) (sp_same (by kernel_rfl) hl hs hS trivial)
  apply sc
  ·intro a w' vs σ hS hl hs hk
   exact rs_skip (wanted_no rfl rfl rfl (sv hk 8) (by decide)) (sp_same (by kernel_rfl) hl hs hS trivial)
  apply sc
  ·intro a w' vs σ hS hl hs hk
   exact rs_skip (wanted_no rfl rfl rfl (sv hk 8) (by decide)) (sp_same (by kernel_rfl) hl hs hS trivial)
  apply sc
  ·intro a w' vs σ hS hl hs hk
   exact rs_skip (wanted_no rfl rfl rfl (sv hk 8) (by decide)) (sp_same (by kernel_rfl) hl hs hS trivial)
  apply sc
  ·intro a w' vs σ hS hl hs hk
   exact rs_skip (wanted_no rfl rfl rfl (sv hk 8) (by decide)) (sp_same (by kernel_rfl) hl hs hS trivial)
  apply sc
  ·intro a w' vs σ hS hl hs hk
   exact rs_skip (wanted_no rfl rfl rfl (sv hk 8) (by decide)) (sp_same (by kernel_rfl) hl hs hS trivial)
  apply sc
  ·intro a w' vs σ hS hl hs hk
   exact rs_skip (wanted_no rfl rfl rfl (sv hk 8) (by decide)) (sp_same (by kernel_rfl) hl hs hS trivial)
  apply sc
  ·intro a w' vs σ hS hl hs hk
   exact rs_skip (wanted_no rfl rfl rfl (sv hk 8) (by decide)) (sp_same (by kernel_rfl) hl hs hS trivial)
  apply sc
  ·intro a w' vs σ hS hl hs hk
   have f26 : a.tmps[26]?.getD undef = .bool true := sf hk 8
   have e35 : a.tmps.getD 35 undef = vs 17 := sk_val hk 17 (by kernel_rfl) rfl rfl
   have p35 : (fun u : Value => True) (vs 17) := (hk.1 17 (by kernel_rfl)).1
   have f35 := gd e35
   exact rp (.bool true) (by simp [execOp, Act.eval, f26, e35, f35, go_sem]) hl hs hS
  exact SSteps.nil
 ·intro vs w' hS hv
  have q0 : vs 0 = _ := hv 0 (by decide)
  have q1 : vs 1 = _ := hv 1 (by decide)
  have q2 : vs 2 = _ := hv 2 (by decide)
  have q3 : vs 3 = _ := hv 3 (by decide)
  have q7 : vs 7 = _ := hv 7 (by decide)
  have q8 : vs 8 = _ := hv 8 (by decide)
  have q18 : vs 18 = _ := hv 18 (by decide)
  have S2 := Lib.hid hS
  simp only [putL, Act.put, Nat.zero_add, Nat.reduceAdd, List.setIfInBounds_toArray, List.set_cons_succ, List.set_cons_zero, q0, q1, q2, q3, q7, q8, q18]
  clear hS hv q0 q1 q2 q3 q7 q8 q18
  go_wp2_with fail
  go_ret
  exact ⟨rfl, S2.out.tail⟩
set_option maxRecDepth 100000 in
set_option maxHeartbeats 2000000 in
theorem Put_bad2 {i j : Nat} (x : Cell) (hT : Tabs w0) (hS : Objs w0 w (.grid p 58 cols L :: os)) (hc : 0 < cols) (hcm : cols ≤ 1000) (hi : i < L.length) (hj : j < cols) (hv : x.ok = true) (hw : x.width = 0) :
  Calls Tryd.prog 33 #[.pointer (some ⟨p, 0, none⟩), .int .i64 i, .int .i64 j, .agg (cv x)] w fun e w' => e = .returned (.int .i64 2) ∧ Objs w0 w' (.grid p 58 cols L :: os) := by
 have S := Lib.hid hS
 have HT := Lib.hid hT
 have HE := Lib.hid (show atE i j cols L = 0 by unfold atE; rw [if_pos ⟨⟨by omega, by omega⟩, by omega, by omega⟩])
 clear hS hT
 have HV := Lib.hid hv
 have hw0 := beq_yes hw
 have HW := Lib.hid hw
 clear hv hw
 go_enter Tryd.func33, Tryd.ntmps33
 go_wp2_with fail
 refine (at_any _ _ S.out.alloc1 (k := 1) rfl hc).mono ?_
 rw [HE.out]
 rintro e w1 ⟨rfl, hS⟩
 have S1 := Lib.hid hS
 clear hS S
 generalize w.heap.size = b7 at S1 ⊢
 go_upto_region 4 with (fail)
 refine wp_region_stage (w0 := w0) (os := os) (by kernel_rfl) (by kernel_rfl) (by kernel_rfl) [] [[0], [], [], [], [], [0], [], [], [], [], [], [], [], [], [], [], [], [], []] [.box b7 71 (cv x), .grid p 58 cols L] (fun i u => match i with | 0 => u = .agg (cv x) | 1 => u = .bool true | 2 => u = .bool false | 3 => u = .bool false | 4 => u = pt b7 4 | 5 => u = .int .i64 x.width | 6 => u = .bool true | 7 => u = .bool true | 8 => u = .bool true | 9 => True | 10 => True | 11 => True | 12 => True | 13 => True | 14 => True | 15 => True | 16 => True | 17 => True | 18 => u = .bool true | _ => True) (fun vs => [.box b7 71 (cv x), .grid p 58 cols L]) (by kernel_rfl) (fun vs => by rfl) S1.out ?_ ?_
 ·apply sc
  ·intro a w' vs σ hS hl hs hk
   have f7 : a.tmps[7]?.getD undef = .pointer (some ⟨b7, 0, none⟩) := sof hk
   have hx := (hS.box (sg (hs 0 (by decide)))).box.2.2.2.1
   exact rp (.agg (cv x)) (by simp [execOp, Act.eval, f7, go_sem, hx]) hl hs hS
  apply sc
  ·intro a w' vs σ hS hl hs hk
   have e18 : a.tmps.getD 18 undef = .agg (cv x) := sv hk 0
   exact ro_call (f := 72) (wanted_none rfl) rfl (by simp only [List.map_toArray, List.map_cons, List.map_nil, Act.eval, e18] <;> rfl) (fun _ _ => by kernel_rfl) ((valid_yes HV.out w' (hS.tabs HT.out)).mono fun e w2 ⟨h1, h2⟩ => ⟨_, h1, sp_same (by kernel_rfl) hl hs (hS.bel h2) rfl, trivial⟩)
  apply sc
  ·intro a w' vs σ hS hl hs hk
   have f19 : a.tmps[19]?.getD undef = .bool true := sf hk 1
   exact rp (.bool false) (by simp [execOp, Act.eval, f19, go_sem]) hl hs hS
  apply sc
  ·intro a w' vs σ hS hl hs hk
   have f20 : a.tmps[20]?.getD undef = .bool false := sf hk 2
   exact rp (.bool false) (by simp [execOp, Act.eval, f20, go_sem]) hl hs hS
  apply sc
  ·intro a w' vs σ hS hl hs hk
   have f7 : a.tmps[7]?.getD undef = .pointer (some ⟨b7, 0, none⟩) := sof hk
   exact rq (pt b7 4) (wanted_yes rfl rfl rfl (sv hk 3)) (by simp [execOp, Act.eval, f7, go_sem]) hl hs hS
  apply sc
  ·intro a w' vs σ hS hl hs hk
   have f22 : a.tmps[22]?.getD undef = .pointer (some ⟨b7, 4, none⟩) := sf hk 4
   have hx := (hS.box (sg (hs 0 (by decide)))).box.1
   exact rq (.int .i64 x.width) (wanted_yes rfl rfl rfl (sv hk 3)) (by simp [execOp, Act.eval, f22, go_sem, hx]) hl hs hS
  apply sc
  ·intro a w' vs σ hS hl hs hk
   have f23 : a.tmps[23]?.getD undef = .int .i64 x.width := sf hk 5
   exact rq (.bool true) (wanted_yes rfl rfl rfl (sv hk 3)) (by simp [execOp, Act.eval, f23, go_sem, hw0]) hl hs hS
  apply sc
  ·intro a w' vs σ hS hl hs hk
   have f21 : a.tmps[21]?.getD undef = .bool false := sf hk 3
   have f24 : a.tmps[24]?.getD undef = .bool true := sf hk 6
   exact rp (.bool true) (by simp [execOp, Act.eval, f21, f24, go_sem]) hl hs hS
  apply sc
  ·intro a w' vs σ hS hl hs hk
   have f25 : a.tmps[25]?.getD undef = .bool true := sf hk 7
   exact rp (.bool true) (by simp [execOp, Act.eval, f25, go_sem]) hl hs hS
  apply sc
  ·intro a w' vs σ hS hl hs hk
   exact rs_skip (wanted_no rfl rfl rfl (sv hk 8) (by decide)) (sp_same (by kernel_rfl) hl hs hS trivial)
  apply sc
  ·intro a w' vs σ hS hl hs hk
   exact rs_skip (wanted_no rfl rfl rfl (sv hk 8) (by decide)) (sp_same (by kernel_rfl) hl hs hS trivial)
  apply sc
  ·intro a w' vs σ hS hl hs hk
   exact rs_skip (wanted_no rfl rfl rfl (sv hk 8) (by decide)) (sp_same (by kernel_rfl) hl hs hS trivial)
  apply sc
  ·intro a w' vs σ hS hl hs hk
   exact rs_skip (wanted_no rfl rfl rfl (sv hk 8) (by decide)) (sp_same (by kernel_rfl) hl hs hS trivial)
  apply sc
  ·intro a w' vs σ hS hl hs hk
   exact rs_skip (wanted_no rfl rfl rfl (sv hk 8) (by decide)) (sp_same (by kernel_rfl) hl hs hS trivial)
  apply sc
  ·intro a w' vs σ hS hl hs hk
   exact rs_skip (wanted_no rfl rfl rfl (sv hk 8) (by decide)) (sp_same (by kernel_rfl) hl hs hS trivial)
  apply sc
  ·intro a w' vs σ hS hl hs hk
   exact rs_skip (wanted_no rfl rfl rfl (sv hk 8) (by decide)) (sp_same (by kernel_rfl) hl hs hS trivial)
  apply sc
  ·intro a w' vs σ hS hl hs hk
   exact rs_skip (wanted_no rfl rfl rfl (sv hk 8) (by decide)) (sp_same (by kernel_rfl) hl hs hS trivial)
  apply sc
  ·intro a w' vs σ hS hl hs hk
   exact rs_skip (wanted_no rfl rfl rfl (sv hk 8) (by decide)) (sp_same (by kernel_rfl) hl hs hS trivial)
  apply sc
  ·intro a w' vs σ hS hl hs hk
   have f26 : a.tmps[26]?.getD undef = .bool true := sf hk 8
   have e35 : a.tmps.getD 35 undef = vs 17 := sk_val hk 17 (by kernel_rfl) rfl rfl
   have p35 : (fun u : Value => True) (vs 17) := (hk.1 17 (by kernel_rfl)).1
   have f35 := gd e35
   exact rp (.bool true) (by simp [execOp, Act.eval, f26, e35, f35, go_sem]) hl hs hS
  exact SSteps.nil
 ·intro vs w' hS hv
  have q0 : vs 0 = _ := hv 0 (by decide)
  have q1 : vs 1 = _ := hv 1 (by decide)
  have q2 : vs 2 = _ := hv 2 (by decide)
  have q3 : vs 3 = _ := hv 3 (by decide)
  have q4 : vs 4 = _ := hv 4 (by decide)
  have q5 : vs 5 = _ := hv 5 (by decide)
  have q6 : vs 6 = _ := hv 6 (by decide)
  have q7 : vs 7 = _ := hv 7 (by decide)
  have q8 : vs 8 = _ := hv 8 (by decide)
  have q18 : vs 18 = _ := hv 18 (by decide)
  have S2 := Lib.hid hS
  simp only [putL, Act.put, Nat.zero_add, Nat.reduceAdd, List.setIfInBounds_toArray, List.set_cons_succ, List.set_cons_zero, q0, q1, q2, q3, q4, q5, q6, q7, q8, q18]
  clear hS hv q0 q1 q2 q3 q4 q5 q6 q7 q8 q18
  go_wp2_with fail
  go_ret
  exact ⟨rfl, S2.out.tail⟩
set_option maxRecDepth 100000 in
set_option maxHeartbeats 2000000 in
theorem Put_bad3 {i j : Nat} (x : Cell) (hT : Tabs w0) (hS : Objs w0 w (.grid p 58 cols L :: os)) (hc : 0 < cols) (hcm : cols ≤ 1000) (hi : i < L.length) (hj : j < cols) (hv : x.ok = true) (hw : ¬ x.width = 0) (hov : (cols : Int) < j + x.width) :
  Calls Tryd.prog 33 #[.pointer (some ⟨p, 0, none⟩), .int .i64 i, .int .i64 j, .agg (cv x)] w fun e w' => e = .returned (.int .i64 2) ∧ Objs w0 w' (.grid p 58 cols L :: os) := by
 have S := Lib.hid hS
 have HT := Lib.hid hT
 have HE := Lib.hid (show atE i j cols L = 0 by unfold atE; rw [if_pos ⟨⟨by omega, by omega⟩, by omega, by omega⟩])
 clear hS hT
 have HV := Lib.hid hv
 have hw0 := beq_no hw
 have hxw : 0 ≤ x.width ∧ x.width ≤ 2 := by rcases ok_width hv with h | h | h <;> omega
 have hsum : IntKind.i64.wrap ((j : Int) + x.width) = j + x.width := IntWalk.i64_in _ (by omega)
 have HW := Lib.hid hw
 clear hv hw
 go_enter Tryd.func33, Tryd.ntmps33
 go_wp2_with fail
 refine (at_any _ _ S.out.alloc1 (k := 1) rfl hc).mono ?_
 rw [HE.out]
 rintro e w1 ⟨rfl, hS⟩
 have S1 := Lib.hid hS
 clear hS S
 generalize w.heap.size = b7 at S1 ⊢
 go_upto_region 4 with (fail)
 refine wp_region_stage (w0 := w0) (os := os) (by kernel_rfl) (by kernel_rfl) (by kernel_rfl) [] [[0], [], [], [], [], [0], [], [], [], [], [], [0], [], [], [], [], [1], [], []] [.box b7 71 (cv x), .grid p 58 cols L] (fun i u => match i with | 0 => u = .agg (cv x) | 1 => u = .bool true | 2 => u = .bool false | 3 => u = .bool false | 4 => u = pt b7 4 | 5 => u = .int .i64 x.width | 6 => u = .bool false | 7 => u = .bool false | 8 => u = .bool false | 9 => u = .int .i64 ↑j | 10 => u = pt b7 4 | 11 => u = .int .i64 x.width | 12 => u = .int .i64 (↑j + x.width) | 13 => u = pt p 0 | 14 => u = pt p 0 | 15 => u = pt p 0 | 16 => u = .int .i64 ↑cols | 17 => u = .bool true | 18 => u = .bool true | _ => True) (fun vs => [.box b7 71 (cv x), .grid p 58 cols L]) (by kernel_rfl) (fun vs => by rfl) S1.out ?_ ?_
 ·apply sc
  ·intro a w' vs σ hS hl hs hk
   have f7 : a.tmps[7]?.getD undef = .pointer (some ⟨b7, 0, none⟩) := sof hk
   have hx := (hS.box (sg (hs 0 (by decide)))).box.2.2.2.1
   exact rp (.agg (cv x)) (by simp [execOp, Act.eval, f7, go_sem, hx]) hl hs hS
  apply sc
  ·intro a w' vs σ hS hl hs hk
   have e18 : a.tmps.getD 18 undef = .agg (cv x) := sv hk 0
   exact ro_call (f := 72) (wanted_none rfl) rfl (by simp only [List.map_toArray, List.map_cons, List.map_nil, Act.eval, e18] <;> rfl) (fun _ _ => by kernel_rfl) ((valid_yes HV.out w' (hS.tabs HT.out)).mono fun e w2 ⟨h1, h2⟩ => ⟨_, h1, sp_same (by kernel_rfl) hl hs (hS.bel h2) rfl, trivial⟩)
  apply sc
  ·intro a w' vs σ hS hl hs hk
   have f19 : a.tmps[19]?.getD undef = .bool true := sf hk 1
   exact rp (.bool false) (by simp [execOp, Act.eval, f19, go_sem]) hl hs hS
  apply sc
  ·intro a w' vs σ hS hl hs hk
   have f20 : a.tmps[20]?.getD undef = .bool false := sf hk 2
   exact rp (.bool false) (by simp [execOp, Act.eval, f20, go_sem]) hl hs hS
  apply sc
  ·intro a w' vs σ hS hl hs hk
   have f7 : a.tmps[7]?.getD undef = .pointer (some ⟨b7, 0, none⟩) := sof hk
   exact rq (pt b7 4) (wanted_yes rfl rfl rfl (sv hk 3)) (by simp [execOp, Act.eval, f7, go_sem]) hl hs hS
  apply sc
  ·intro a w' vs σ hS hl hs hk
   have f22 : a.tmps[22]?.getD undef = .pointer (some ⟨b7, 4, none⟩) := sf hk 4
   have hx := (hS.box (sg (hs 0 (by decide)))).box.1
   exact rq (.int .i64 x.width) (wanted_yes rfl rfl rfl (sv hk 3)) (by simp [execOp, Act.eval, f22, go_sem, hx]) hl hs hS
  apply sc
  ·intro a w' vs σ hS hl hs hk
   have f23 : a.tmps[23]?.getD undef = .int .i64 x.width := sf hk 5
   exact rq (.bool false) (wanted_yes rfl rfl rfl (sv hk 3)) (by simp [execOp, Act.eval, f23, go_sem, hw0]) hl hs hS
  apply sc
  ·intro a w' vs σ hS hl hs hk
   have f21 : a.tmps[21]?.getD undef = .bool false := sf hk 3
   have f24 : a.tmps[24]?.getD undef = .bool false := sf hk 6
   exact rp (.bool false) (by simp [execOp, Act.eval, f21, f24, go_sem]) hl hs hS
  apply sc
  ·intro a w' vs σ hS hl hs hk
   have f25 : a.tmps[25]?.getD undef = .bool false := sf hk 7
   exact rp (.bool false) (by simp [execOp, Act.eval, f25, go_sem]) hl hs hS
  apply sc
  ·intro a w' vs σ hS hl hs hk
   have f2 : a.tmps[2]?.getD undef = .int .i64 ↑j := sof hk
   exact rq (.int .i64 ↑j) (wanted_yes rfl rfl rfl (sv hk 8)) (by simp [execOp, Act.eval, f2, go_sem]) hl hs hS
  apply sc
  ·intro a w' vs σ hS hl hs hk
   have f7 : a.tmps[7]?.getD undef = .pointer (some ⟨b7, 0, none⟩) := sof hk
   exact rq (pt b7 4) (wanted_yes rfl rfl rfl (sv hk 8)) (by simp [execOp, Act.eval, f7, go_sem]) hl hs hS
  apply sc
  ·intro a w' vs σ hS hl hs hk
   have f28 : a.tmps[28]?.getD undef = .pointer (some ⟨b7, 4, none⟩) := sf hk 10
   have hx := (hS.box (sg (hs 0 (by decide)))).box.1
   exact rq (.int .i64 x.width) (wanted_yes rfl rfl rfl (sv hk 8)) (by simp [execOp, Act.eval, f28, go_sem, hx]) hl hs hS
  apply sc
  ·intro a w' vs σ hS hl hs hk
   have f27 : a.tmps[27]?.getD undef = .int .i64 ↑j := sf hk 9
   have f29 : a.tmps[29]?.getD undef = .int .i64 x.width := sf hk 11
   exact rq (.int .i64 (↑j + x.width)) (wanted_yes rfl rfl rfl (sv hk 8)) (by simp [execOp, Act.eval, f27, f29, go_sem, hsum]) hl hs hS
  apply sc
  ·intro a w' vs σ hS hl hs hk
   have f0 : a.tmps[0]?.getD undef = .pointer (some ⟨p, 0, none⟩) := sof hk
   exact rq (pt p 0) (wanted_yes rfl rfl rfl (sv hk 8)) (by simp [execOp, Act.eval, f0, go_sem]) hl hs hS
  apply sc
  ·intro a w' vs σ hS hl hs hk
   have f31 : a.tmps[31]?.getD undef = .pointer (some ⟨p, 0, none⟩) := sf hk 13
   exact rq (pt p 0) (wanted_yes rfl rfl rfl (sv hk 8)) (by simp [execOp, Act.eval, f31, go_sem]) hl hs hS
  apply sc
  ·intro a w' vs σ hS hl hs hk
   have f32 : a.tmps[32]?.getD undef = .pointer (some ⟨p, 0, none⟩) := sf hk 14
   exact rq (pt p 0) (wanted_yes rfl rfl rfl (sv hk 8)) (by simp [execOp, Act.eval, f32, go_sem]) hl hs hS
  apply sc
  ·intro a w' vs σ hS hl hs hk
   have f33 : a.tmps[33]?.getD undef = .pointer (some ⟨p, 0, none⟩) := sf hk 15
   obtain ⟨A1, c1, hB1, -, -⟩ := hS.gridRd (sg (hs 1 (by decide)))
   have hx := hB1.cell
   exact rq (.int .i64 ↑cols) (wanted_yes rfl rfl rfl (sv hk 8)) (by simp [execOp, Act.eval, f33, go_sem, hx]) hl hs hS
  apply sc
  ·intro a w' vs σ hS hl hs hk
   have f30 : a.tmps[30]?.getD undef = .int .i64 (↑j + x.width) := sf hk 12
   have f34 : a.tmps[34]?.getD undef = .int .i64 ↑cols := sf hk 16
   exact rq (.bool true) (wanted_yes rfl rfl rfl (sv hk 8)) (by simp [execOp, Act.eval, f30, f34, go_sem, hov]) hl hs hS
  apply sc
  ·intro a w' vs σ hS hl hs hk
   have f26 : a.tmps[26]?.getD undef = .bool false := sf hk 8
   have f35 : a.tmps[35]?.getD undef = .bool true := sf hk 17
   exact rp (.bool true) (by simp [execOp, Act.eval, f26, f35, go_sem]) hl hs hS
  exact SSteps.nil
 ·intro vs w' hS hv
  have q0 : vs 0 = _ := hv 0 (by decide)
  have q1 : vs 1 = _ := hv 1 (by decide)
  have q2 : vs 2 = _ := hv 2 (by decide)
  have q3 : vs 3 = _ := hv 3 (by decide)
  have q4 : vs 4 = _ := hv 4 (by decide)
  have q5 : vs 5 = _ := hv 5 (by decide)
  have q6 : vs 6 = _ := hv 6 (by decide)
  have q7 : vs 7 = _ := hv 7 (by decide)
  have q8 : vs 8 = _ := hv 8 (by decide)
  have q9 : vs 9 = _ := hv 9 (by decide)
  have q10 : vs 10 = _ := hv 10 (by decide)
  have q11 : vs 11 = _ := hv 11 (by decide)
  have q12 : vs 12 = _ := hv 12 (by decide)
  have q13 : vs 13 = _ := hv 13 (by decide)
  have q14 : vs 14 = _ := hv 14 (by decide)
  have q15 : vs 15 = _ := hv 15 (by decide)
  have q16 : vs 16 = _ := hv 16 (by decide)
  have q17 : vs 17 = _ := hv 17 (by decide)
  have q18 : vs 18 = _ := hv 18 (by decide)
  have S2 := Lib.hid hS
  simp only [putL, Act.put, Nat.zero_add, Nat.reduceAdd, List.setIfInBounds_toArray, List.set_cons_succ, List.set_cons_zero, q0, q1, q2, q3, q4, q5, q6, q7, q8, q9, q10, q11, q12, q13, q14, q15, q16, q17, q18]
  clear hS hv q0 q1 q2 q3 q4 q5 q6 q7 q8 q9 q10 q11 q12 q13 q14 q15 q16 q17 q18
  go_wp2_with fail
  go_ret
  exact ⟨rfl, S2.out.tail⟩
set_option maxRecDepth 100000 in
set_option maxHeartbeats 4000000 in
theorem Put_yes {i j : Nat} {l : Ln} (x : Cell) (hT : Tabs w0) (hS : Objs w0 w (.grid p 58 cols L :: os)) (hc : 0 < cols) (hcm : cols ≤ 1000) (hl : L[i]? = some l) (hrow : l.1.length = cols) (hv : x.ok = true) (hw : ¬ x.width = 0) (hfit : (j : Int) + x.width ≤ cols) :
  Calls Tryd.prog 33 #[.pointer (some ⟨p, 0, none⟩), .int .i64 i, .int .i64 j, .agg (cv x)] w fun e w' => e = .returned (.int .i64 0) ∧ Objs w0 w' (.grid p 58 cols (L.set i (putC j x l.1, l.2)) :: os) := by
 have S := Lib.hid hS
 have hi : i < L.length := (List.getElem?_eq_some_iff.1 hl).1
 have hxw : 1 ≤ x.width ∧ x.width ≤ 2 := by rcases ok_w12 hv hw with h | h <;> omega
 have hj : j < cols := by omega
 have HL := Lib.hid hl
 have HT := Lib.hid hT
 have HE := Lib.hid (show atE i j cols L = 0 by unfold atE; rw [if_pos ⟨⟨by omega, by omega⟩, by omega, by omega⟩])
 have HV := Lib.hid hv
 have hw0 := beq_no hw
 have hsum : IntKind.i64.wrap ((j : Int) + x.width) = j + x.width := IntWalk.i64_in _ (by omega)
 have hov : ¬ ((cols : Int) < j + x.width) := by omega
 have HROW := Lib.hid hrow
 have hlr : l.1.length ≤ 1000 := by omega
 have hjr : j < l.1.length := by omega
 clear hS hT hl hv hw hrow
 go_enter Tryd.func33, Tryd.ntmps33
 go_wp2_with fail
 refine (at_any _ _ S.out.alloc1 (k := 1) rfl hc).mono ?_
 rw [HE.out]
 rintro e w1 ⟨rfl, hS⟩
 have S1 := Lib.hid hS
 clear hS S
 generalize w.heap.size = b7 at S1 ⊢
 go_upto_region 4 with (fail)
 refine wp_region_stage (w0 := w0) (os := os) (by kernel_rfl) (by kernel_rfl) (by kernel_rfl) [] [[0], [], [], [], [], [0], [], [], [], [], [], [0], [], [], [], [], [1], [], []] [.box b7 71 (cv x), .grid p 58 cols L] (fun i u => match i with | 0 => u = .agg (cv x) | 1 => u = .bool true | 2 => u = .bool false | 3 => u = .bool false | 4 => u = pt b7 4 | 5 => u = .int .i64 x.width | 6 => u = .bool false | 7 => u = .bool false | 8 => u = .bool false | 9 => u = .int .i64 ↑j | 10 => u = pt b7 4 | 11 => u = .int .i64 x.width | 12 => u = .int .i64 (↑j + x.width) | 13 => u = pt p 0 | 14 => u = pt p 0 | 15 => u = pt p 0 | 16 => u = .int .i64 ↑cols | 17 => u = .bool false | 18 => u = .bool false | _ => True) (fun vs => [.box b7 71 (cv x), .grid p 58 cols L]) (by kernel_rfl) (fun vs => by rfl) S1.out ?_ ?_
 ·apply sc
  ·intro a w' vs σ hS hl hs hk
   have f7 : a.tmps[7]?.getD undef = .pointer (some ⟨b7, 0, none⟩) := sof hk
   have hx := (hS.box (sg (hs 0 (by decide)))).box.2.2.2.1
   exact rp (.agg (cv x)) (by simp [execOp, Act.eval, f7, go_sem, hx]) hl hs hS
  apply sc
  ·intro a w' vs σ hS hl hs hk
   have e18 : a.tmps.getD 18 undef = .agg (cv x) := sv hk 0
   exact ro_call (f := 72) (wanted_none rfl) rfl (by simp only [List.map_toArray, List.map_cons, List.map_nil, Act.eval, e18] <;> rfl) (fun _ _ => by kernel_rfl) ((valid_yes HV.out w' (hS.tabs HT.out)).mono fun e w2 ⟨h1, h2⟩ => ⟨_, h1, sp_same (by kernel_rfl) hl hs (hS.bel h2) rfl, trivial⟩)
  apply sc
  ·intro a w' vs σ hS hl hs hk
   have f19 : a.tmps[19]?.getD undef = .bool true := sf hk 1
   exact rp (.bool false) (by simp [execOp, Act.eval, f19, go_sem]) hl hs hS
  apply sc
  ·intro a w' vs σ hS hl hs hk
   have f20 : a.tmps[20]?.getD undef = .bool false := sf hk 2
   exact rp (.bool false) (by simp [execOp, Act.eval, f20, go_sem]) hl hs hS
  apply sc
  ·intro a w' vs σ hS hl hs hk
   have f7 : a.tmps[7]?.getD undef = .pointer (some ⟨b7, 0, none⟩) := sof hk
   exact rq (pt b7 4) (wanted_yes rfl rfl rfl (sv hk 3)) (by simp [execOp, Act.eval, f7, go_sem]) hl hs hS
  apply sc
  ·intro a w' vs σ hS hl hs hk
   have f22 : a.tmps[22]?.getD undef = .pointer (some ⟨b7, 4, none⟩) := sf hk 4
   have hx := (hS.box (sg (hs 0 (by decide)))).box.1
   exact rq (.int .i64 x.width) (wanted_yes rfl rfl rfl (sv hk 3)) (by simp [execOp, Act.eval, f22, go_sem, hx]) hl hs hS
  apply sc
  ·intro a w' vs σ hS hl hs hk
   have f23 : a.tmps[23]?.getD undef = .int .i64 x.width := sf hk 5
   exact rq (.bool false) (wanted_yes rfl rfl rfl (sv hk 3)) (by simp [execOp, Act.eval, f23, go_sem, hw0]) hl hs hS
  apply sc
  ·intro a w' vs σ hS hl hs hk
   have f21 : a.tmps[21]?.getD undef = .bool false := sf hk 3
   have f24 : a.tmps[24]?.getD undef = .bool false := sf hk 6
   exact rp (.bool false) (by simp [execOp, Act.eval, f21, f24, go_sem]) hl hs hS
  apply sc
  ·intro a w' vs σ hS hl hs hk
   have f25 : a.tmps[25]?.getD undef = .bool false := sf hk 7
   exact rp (.bool false) (by simp [execOp, Act.eval, f25, go_sem]) hl hs hS
  apply sc
  ·intro a w' vs σ hS hl hs hk
   have f2 : a.tmps[2]?.getD undef = .int .i64 ↑j := sof hk
   exact rq (.int .i64 ↑j) (wanted_yes rfl rfl rfl (sv hk 8)) (by simp [execOp, Act.eval, f2, go_sem]) hl hs hS
  apply sc
  ·intro a w' vs σ hS hl hs hk
   have f7 : a.tmps[7]?.getD undef = .pointer (some ⟨b7, 0, none⟩) := sof hk
   exact rq (pt b7 4) (wanted_yes rfl rfl rfl (sv hk 8)) (by simp [execOp, Act.eval, f7, go_sem]) hl hs hS
  apply sc
  ·intro a w' vs σ hS hl hs hk
   have f28 : a.tmps[28]?.getD undef = .pointer (some ⟨b7, 4, none⟩) := sf hk 10
   have hx := (hS.box (sg (hs 0 (by decide)))).box.1
   exact rq (.int .i64 x.width) (wanted_yes rfl rfl rfl (sv hk 8)) (by simp [execOp, Act.eval, f28, go_sem, hx]) hl hs hS
  apply sc
  ·intro a w' vs σ hS hl hs hk
   have f27 : a.tmps[27]?.getD undef = .int .i64 ↑j := sf hk 9
   have f29 : a.tmps[29]?.getD undef = .int .i64 x.width := sf hk 11
   exact rq (.int .i64 (↑j + x.width)) (wanted_yes rfl rfl rfl (sv hk 8)) (by simp [execOp, Act.eval, f27, f29, go_sem, hsum]) hl hs hS
  apply sc
  ·intro a w' vs σ hS hl hs hk
   have f0 : a.tmps[0]?.getD undef = .pointer (some ⟨p, 0, none⟩) := sof hk
   exact rq (pt p 0) (wanted_yes rfl rfl rfl (sv hk 8)) (by simp [execOp, Act.eval, f0, go_sem]) hl hs hS
  apply sc
  ·intro a w' vs σ hS hl hs hk
   have f31 : a.tmps[31]?.getD undef = .pointer (some ⟨p, 0, none⟩) := sf hk 13
   exact rq (pt p 0) (wanted_yes rfl rfl rfl (sv hk 8)) (by simp [execOp, Act.eval, f31, go_sem]) hl hs hS
  apply sc
  ·intro a w' vs σ hS hl hs hk
   have f32 : a.tmps[32]?.getD undef = .pointer (some ⟨p, 0, none⟩) := sf hk 14
   exact rq (pt p 0) (wanted_yes rfl rfl rfl (sv hk 8)) (by simp [execOp, Act.eval, f32, go_sem]) hl hs hS
  apply sc
  ·intro a w' vs σ hS hl hs hk
   have f33 : a.tmps[33]?.getD undef = .pointer (some ⟨p, 0, none⟩) := sf hk 15
   obtain ⟨A1, c1, hB1, -, -⟩ := hS.gridRd (sg (hs 1 (by decide)))
   have hx := hB1.cell
   exact rq (.int .i64 ↑cols) (wanted_yes rfl rfl rfl (sv hk 8)) (by simp [execOp, Act.eval, f33, go_sem, hx]) hl hs hS
  apply sc
  ·intro a w' vs σ hS hl hs hk
   have f30 : a.tmps[30]?.getD undef = .int .i64 (↑j + x.width) := sf hk 12
   have f34 : a.tmps[34]?.getD undef = .int .i64 ↑cols := sf hk 16
   exact rq (.bool false) (wanted_yes rfl rfl rfl (sv hk 8)) (by simp [execOp, Act.eval, f30, f34, go_sem, hov]) hl hs hS
  apply sc
  ·intro a w' vs σ hS hl hs hk
   have f26 : a.tmps[26]?.getD undef = .bool false := sf hk 8
   have f35 : a.tmps[35]?.getD undef = .bool false := sf hk 17
   exact rp (.bool false) (by simp [execOp, Act.eval, f26, f35, go_sem]) hl hs hS
  exact SSteps.nil
 ·intro vs w' hS hv
  have q0 : vs 0 = _ := hv 0 (by decide)
  have q1 : vs 1 = _ := hv 1 (by decide)
  have q2 : vs 2 = _ := hv 2 (by decide)
  have q3 : vs 3 = _ := hv 3 (by decide)
  have q4 : vs 4 = _ := hv 4 (by decide)
  have q5 : vs 5 = _ := hv 5 (by decide)
  have q6 : vs 6 = _ := hv 6 (by decide)
  have q7 : vs 7 = _ := hv 7 (by decide)
  have q8 : vs 8 = _ := hv 8 (by decide)
  have q9 : vs 9 = _ := hv 9 (by decide)
  have q10 : vs 10 = _ := hv 10 (by decide)
  have q11 : vs 11 = _ := hv 11 (by decide)
  have q12 : vs 12 = _ := hv 12 (by decide)
  have q13 : vs 13 = _ := hv 13 (by decide)
  have q14 : vs 14 = _ := hv 14 (by decide)
  have q15 : vs 15 = _ := hv 15 (by decide)
  have q16 : vs 16 = _ := hv 16 (by decide)
  have q17 : vs 17 = _ := hv 17 (by decide)
  have q18 : vs 18 = _ := hv 18 (by decide)
  have S2 := Lib.hid hS
  simp only [putL, Act.put, Nat.zero_add, Nat.reduceAdd, List.setIfInBounds_toArray, List.set_cons_succ, List.set_cons_zero, q0, q1, q2, q3, q4, q5, q6, q7, q8, q9, q10, q11, q12, q13, q14, q15, q16, q17, q18]
  clear hS hv q0 q1 q2 q3 q4 q5 q6 q7 q8 q9 q10 q11 q12 q13 q14 q15 q16 q17 q18
  clear hsum hw0 hov
  obtain ⟨v, b, hS3⟩ := S2.out.swap.openAt HL.out
  obtain ⟨A, c, rfl, -⟩ := hS3.cellsRd (k := 0) rfl
  obtain ⟨g, rfl, -, -, -, -⟩ := (hS3.own (k := 0) rfl).head (by omega)
  obtain ⟨gr, cr, rfl, h1, h2, h3, h4, h5, h6, h7⟩ := hS3.linesxRd (k := 1) rfl
  obtain ⟨hx2, hf2, hz2⟩ := (hS3.box (k := 2) rfl).facts
  have hlen2 : L.length ≤ 9223372036854775807 := by unfold maxLen at h2; omega
  have S3 := Lib.hid hS3
  clear hS3 h1 h2 h6
  go_wp2_with fail
  refine (split_at S3.out rfl rfl (by omega) (by omega)).mono ?_
  rintro e w4 ⟨rfl, hS4⟩
  have S4 := Lib.hid hS4
  obtain ⟨hx7, hf7, hz7, hc7, hp7⟩ := (hS4.box (k := 3) rfl).box
  clear hS4 hx2 hf2 hz2 h4 h5 h7
  go_wp2_with fail
  refine (split_at (c := j + x.width.toNat) S4.out (by rw [brk_length]) (by omega) (by rw [brk_length]; omega) (by omega)).mono ?_
  rintro e w5 ⟨rfl, hS5⟩
  obtain ⟨W, hst, ho, hg⟩ := (hS5.own (k := 0) rfl).putAt (k := j) (by rw [brk_length, brk_length]; omega) x
  have hS6 := hS5.cellsUpd (k := 0) rfl ho hg
  clear hx7 hf7 hz7 hc7 hp7
  obtain ⟨hx5, hf5, hz5, hc5, hp5⟩ := (hS5.box (k := 3) rfl).box
  obtain ⟨hx7, hf7, hz7, hc7, hp7⟩ := (hS6.box (k := 3) rfl).box
  have S6 := Lib.hid hS6
  clear hS5 hS6 ho hg
  by_cases hw2 : x.width = 2
  ·have hw2' := beq_yes hw2
   have HP := Lib.hid (show putC j x l.1 = (((brk (j + x.width.toNat) (brk j l.1)).set j x).set (j + 1) (spacer x.pen)) from if_pos hw2)
   have HW2 := Lib.hid hw2
   clear hw2
   have hj2 : j + 1 < l.1.length := by have := HW2.out; have := HROW.out; omega
   go_wp2_with fail
   refine (pure_call (cellSpacer_any _ _) S6.out).mono ?_
   rintro e w7 ⟨rfl, hS7⟩
   obtain ⟨W2, hst2, ho2, hg2⟩ := (hS7.own (k := 0) rfl).putAt (k := j + 1) (by rw [List.length_set, brk_length, brk_length]; have := HW2.out; have := HROW.out; omega) (spacer x.pen)
   have S8 := Lib.hid (hS7.cellsUpd (k := 0) rfl ho2 hg2)
   clear ho2 hg2
   clear hS7
   have HF := S8.out.closeAt HL.out
   rw [← HP.out] at HF
   go_wp2_with fail
   go_ret
   exact ⟨rfl, HF.drop2⟩
  ·have hw2' := beq_no hw2
   have HP := Lib.hid (show putC j x l.1 = ((brk (j + x.width.toNat) (brk j l.1)).set j x) by unfold putC; rw [if_neg hw2])
   clear hw2
   have HF := S6.out.closeAt HL.out
   rw [← HP.out] at HF
   go_wp2_with fail
   go_ret
   exact ⟨rfl, HF.drop2⟩
set_option maxRecDepth 100000 in
set_option maxHeartbeats 4000000 in
theorem r14Put_any {i j : Nat} {l : Ln} (x : Cell) (hS : Objs w0 w (.grid p 33 cols L :: os)) (hc : 0 < cols) (hcm : cols ≤ 1000) (hl : L[i]? = some l) (hrow : l.1.length = cols) (hv : x.ok = true) (hw : ¬ x.width = 0) (hfit : (j : Int) + x.width ≤ cols) :
  Calls Tryd.prog 34 #[.pointer (some ⟨p, 0, none⟩), .int .i64 i, .int .i64 j, .agg (cv x)] w fun e w' => e = .returned (.tuple #[]) ∧ Objs w0 w' (.grid p 33 cols (L.set i (putC j x l.1, l.2)) :: os) := by
 have S := Lib.hid hS
 have hi : i < L.length := (List.getElem?_eq_some_iff.1 hl).1
 have hxw : 1 ≤ x.width ∧ x.width ≤ 2 := by rcases ok_w12 hv hw with h | h <;> omega
 have hj : j < cols := by omega
 have HL := Lib.hid hl
 have HROW := Lib.hid hrow
 have hlr : l.1.length ≤ 1000 := by omega
 have hjr : j < l.1.length := by omega
 clear hS hl hv hw hrow
 go_enter Tryd.func34, Tryd.ntmps34
 have S2 := Lib.hid (S.out.alloc1 (c1 := cv x) (t1 := 71))
 obtain ⟨v, b, hS3⟩ := S2.out.swap.openAt HL.out
 obtain ⟨A, c, rfl, -⟩ := hS3.cellsRd (k := 0) rfl
 obtain ⟨g, rfl, -, -, -, -⟩ := (hS3.own (k := 0) rfl).head (by omega)
 obtain ⟨gr, cr, rfl, h1, h2, h3, h4, h5, h6, h7⟩ := hS3.linesxRd (k := 1) rfl
 obtain ⟨hx2, hf2, hz2⟩ := (hS3.box (k := 2) rfl).facts
 have hlen2 : L.length ≤ 9223372036854775807 := by unfold maxLen at h2; omega
 have S3 := Lib.hid hS3
 clear hS3 h1 h2 h6
 go_wp2_with fail
 refine (break_at S3.out rfl rfl (by omega) (by omega)).mono ?_
 rintro e w4 ⟨rfl, hS4⟩
 have S4 := Lib.hid hS4
 obtain ⟨hx7, hf7, hz7, hc7, hp7⟩ := (hS4.box (k := 3) rfl).box
 clear hS4 hx2 hf2 hz2 h4 h5 h7
 go_wp2_with fail
 refine (break_at (c := j + x.width.toNat) S4.out (by rw [brk_length]) (by omega) (by rw [brk_length]; omega) (by omega)).mono ?_
 rintro e w5 ⟨rfl, hS5⟩
 obtain ⟨W, hst, ho, hg⟩ := (hS5.own (k := 0) rfl).putAt (k := j) (by rw [brk_length, brk_length]; omega) x
 have hS6 := hS5.cellsUpd (k := 0) rfl ho hg
 clear hx7 hf7 hz7 hc7 hp7
 obtain ⟨hx5, hf5, hz5, hc5, hp5⟩ := (hS5.box (k := 3) rfl).box
 obtain ⟨hx7, hf7, hz7, hc7, hp7⟩ := (hS6.box (k := 3) rfl).box
 have S6 := Lib.hid hS6
 clear hS5 hS6 ho hg
 by_cases hw2 : x.width = 2
 ·have hw2' := beq_yes hw2
  have HP := Lib.hid (show putC j x l.1 = (((brk (j + x.width.toNat) (brk j l.1)).set j x).set (j + 1) (⟨0, 0, 0, 0, 0, x.pen⟩ : Cell)) from if_pos hw2)
  have HW2 := Lib.hid hw2
  clear hw2
  have hj2 : j + 1 < l.1.length := by have := HW2.out; have := HROW.out; omega
  obtain ⟨W2, hst2, ho2, hg2⟩ := (S6.out.own (k := 0) rfl).putAt (k := j + 1) (by rw [List.length_set, brk_length, brk_length]; have := HW2.out; have := HROW.out; omega) (⟨0, 0, 0, 0, 0, x.pen⟩ : Cell)
  have S8 := Lib.hid (S6.out.cellsUpd (k := 0) rfl ho2 hg2)
  clear ho2 hg2
  have HF := S8.out.closeAt HL.out
  rw [← HP.out] at HF
  go_wp2_with fail
  go_end0
  exact ⟨rfl, HF.drop2⟩
 ·have hw2' := beq_no hw2
  have HP := Lib.hid (show putC j x l.1 = ((brk (j + x.width.toNat) (brk j l.1)).set j x) by unfold putC; rw [if_neg hw2])
  clear hw2
  have HF := S6.out.closeAt HL.out
  rw [← HP.out] at HF
  go_wp2_with fail
  go_end0
  exact ⟨rfl, HF.drop2⟩
end
end Go.Proofs.YtppijfjigcoifaaDoor

namespace Go.Proofs.YtppijfjigcoifaaDoor
open Go.RowKit

def clearC (f t : Nat) (q : Pen) (cs : List Cell) : List Cell := if f < t then wipeC f (t - f) q (brk t (brk f cs)) else cs
theorem clearC_length {f t : Nat} {q : Pen} {cs : List Cell} (h : t ≤ cs.length) : (clearC f t q cs).length = cs.length := by
 unfold clearC
 split
 ·rw [wipeC_length (by rw [brk_length, brk_length]; omega), brk_length, brk_length]
 ·rfl
def shiftR (j k : Nat) (q : Pen) (cs : List Cell) : List Cell := let l := brk (cs.length - k) (brk j cs); l.take j ++ (List.replicate k (blank q) ++ (l.drop j).take (cs.length - k - j))
def shiftL (j k : Nat) (q : Pen) (cs : List Cell) : List Cell := let l := brk (j + k) (brk j cs); l.take j ++ (l.drop (j + k) ++ List.replicate k (blank q))
theorem shiftR_length {j k : Nat} {q : Pen} {cs : List Cell} (h : j + k ≤ cs.length) : (shiftR j k q cs).length = cs.length := by
 simp only [shiftR, List.length_append, List.length_take, List.length_drop, List.length_replicate, brk_length]; omega
theorem shiftL_length {j k : Nat} {q : Pen} {cs : List Cell} (h : j + k ≤ cs.length) : (shiftL j k q cs).length = cs.length := by
 simp only [shiftL, List.length_append, List.length_take, List.length_drop, List.length_replicate, brk_length]; omega
theorem shiftR_is {j k : Nat} {q : Pen} {l : List Cell} (h : j + k ≤ l.length) :
  wipeC j k q (l.take (j + k) ++ ((l.drop j).take (l.length - k - j) ++ l.drop (j + k + (l.length - k - j)))) = l.take j ++ (List.replicate k (blank q) ++ (l.drop j).take (l.length - k - j)) := by
 unfold wipeC
 have e1 : l.drop (j + k + (l.length - k - j)) = [] := List.drop_eq_nil_of_le (by omega)
 rw [e1, List.append_nil]
 have hlen : (l.take (j + k)).length = j + k := by simp; omega
 rw [List.take_append_of_le_length (by omega), List.take_take, Nat.min_eq_left (by omega), List.drop_left' hlen]
 simp
theorem shiftL_is {j k : Nat} {q : Pen} {l : List Cell} (h : j + k ≤ l.length) :
  wipeC (l.length - k) k q (l.take j ++ ((l.drop (j + k)).take (l.length - (j + k)) ++ l.drop (j + (l.length - (j + k))))) = l.take j ++ (l.drop (j + k) ++ List.replicate k (blank q)) := by
 unfold wipeC
 have e1 : (l.drop (j + k)).take (l.length - (j + k)) = l.drop (j + k) := List.take_of_length_le (by simp)
 rw [e1]
 have hlen : (l.take j ++ l.drop (j + k)).length = l.length - k := by simp; omega
 rw [List.drop_eq_nil_of_le (i := l.length - k + k) (by simp only [List.length_append, List.length_take, List.length_drop]; omega), ← List.append_assoc, List.take_left' hlen, List.append_nil, List.append_assoc]
section
variable {w0 w : World} {os : List Ob} {p cols : Nat} {L : List Ln}
set_option maxRecDepth 100000 in
set_option maxHeartbeats 4000000 in
theorem Clear_yes {i f t : Nat} {l : Ln} (q : Pen) (hT : Tabs w0) (hS : Objs w0 w (.grid p 58 cols L :: os)) (hc : 0 < cols) (hcm : cols ≤ 1000) (hl : L[i]? = some l) (hrow : l.1.length = cols) (hq : q.ok = true) (hft : f < t) (ht : t ≤ cols) :
  Calls Tryd.prog 51 #[.pointer (some ⟨p, 0, none⟩), .int .i64 i, .int .i64 f, .int .i64 t, .agg (pv q)] w fun e w' => e = .returned (.int .i64 0) ∧ Objs w0 w' (.grid p 58 cols (L.set i (clearC f t q l.1, l.2)) :: os) := by
 have S := Lib.hid hS
 have hi : i < L.length := (List.getElem?_eq_some_iff.1 hl).1
 have HL := Lib.hid hl
 have HT := Lib.hid hT
 have HQ := Lib.hid hq
 have HROW := Lib.hid hrow
 have hlr : l.1.length ≤ 1000 := by omega
 have hlr2 : cols ≤ l.1.length := by omega
 have hlr3 : l.1.length ≤ cols := by omega
 have HE := Lib.hid (show thereE i L = 0 by unfold thereE; rw [if_pos ⟨by omega, by omega⟩])
 have HP := Lib.hid (show clearC f t q l.1 = wipeC f (t - f) q (brk t (brk f l.1)) from if_pos hft)
 clear hS hT hl hrow hq
 go_enter Tryd.func51, Tryd.ntmps51
 go_wp2_with fail
 refine (there_any i S.out.alloc1 (k := 1) rfl hc).mono ?_
 rw [HE.out]
 rintro e w1 ⟨rfl, hS⟩
 have S1 := Lib.hid hS
 obtain ⟨A0, c0, hB0, -, -⟩ := hS.gridRd (k := 1) rfl
 obtain ⟨hx0, hf0, hz0⟩ := hB0.facts
 obtain ⟨hx9, hf9, hz9, hp9⟩ := (hS.box (k := 0) rfl).pbox
 clear hS S hB0
 generalize w.heap.size = b9 at S1 hx9 hf9 hz9 hp9 ⊢
 go_wp2_with fail
 refine (inked_is HQ.out HT.out S1.out).mono ?_
 rintro e w2 ⟨rfl, hS⟩
 have S2 := Lib.hid hS
 clear hS hx0 hf0 hz0 hx9 hf9 hz9 hp9
 obtain ⟨v, b, hS3⟩ := S2.out.swap.openAt HL.out
 obtain ⟨A, c, rfl, hrd⟩ := hS3.cellsRd (k := 0) rfl
 have hnc : l.1.length ≤ c := hrd.1
 obtain ⟨g, rfl, -, -, -, -⟩ := (hS3.own (k := 0) rfl).head (by omega)
 obtain ⟨gr, cr, rfl, h1, h2, h3, h4, h5, h6, h7⟩ := hS3.linesxRd (k := 1) rfl
 obtain ⟨hx2, hf2, hz2⟩ := (hS3.box (k := 2) rfl).facts
 have hlen2 : L.length ≤ 9223372036854775807 := by unfold maxLen at h2; omega
 have S3 := Lib.hid hS3
 clear hS3 h1 h2 h6 hrd
 go_wp2_with fail
 refine (split_at (c := f) S3.out rfl rfl (by omega) (by omega)).mono ?_
 rintro e w4 ⟨rfl, hS4⟩
 have S4 := Lib.hid hS4
 clear hS4 hx2 hf2 hz2 h4 h5 h7
 go_wp2_with fail
 refine (split_at (c := t) S4.out (by rw [brk_length]) rfl (by rw [brk_length]; omega) (by omega)).mono ?_
 rintro e w5 ⟨rfl, hS5⟩
 have S5 := Lib.hid hS5
 clear hS5
 go_upto_region 13 with (fail)
 refine wp_region_stage (w0 := w0) (os := os) (by kernel_rfl) (by kernel_rfl) (by kernel_rfl) [(0, 5, [], fun vs => .cells (.slice (some ⟨g, 0, none⟩) l.1.length c) (wipeC f (t - f) q (brk t (brk f l.1))))] [[], [], [], [], [3], [0]] [.cells (.slice (some ⟨g, 0, none⟩) l.1.length c) (brk t (brk f l.1)), .linesx (.slice (some ⟨gr, 0, none⟩) L.length cr) L i (.slice (some ⟨g, 0, none⟩) l.1.length c), .box p 58 #[.int .i64 ↑cols, .slice (some ⟨gr, 0, none⟩) L.length cr], .box b9 54 (pv q)] (fun i u => match i with | 0 => u = .slice (some ⟨g, 0, none⟩) l.1.length c | 1 => u = .int .i64 ↑f | 2 => u = .int .i64 ↑t | 3 => u = .slice (some ⟨g, f * 16, none⟩) (t - f) (c - f) | 4 => u = .agg (pv q) | 5 => u = .tuple #[] | _ => True) (fun vs => [.cells (.slice (some ⟨g, 0, none⟩) l.1.length c) (wipeC f (t - f) q (brk t (brk f l.1))), .linesx (.slice (some ⟨gr, 0, none⟩) L.length cr) L i (.slice (some ⟨g, 0, none⟩) l.1.length c), .box p 58 #[.int .i64 ↑cols, .slice (some ⟨gr, 0, none⟩) L.length cr], .box b9 54 (pv q)]) (by kernel_rfl) (fun vs => by rfl) S5.out ?_ ?_
 ·apply sc
  ·intro a w' vs σ hS hl hs hk
   have f12 : a.tmps[12]?.getD undef = .slice (some ⟨g, 0, none⟩) l.1.length c := sof hk
   exact rp (.slice (some ⟨g, 0, none⟩) l.1.length c) (by simp [execOp, Act.eval, f12, go_sem]) hl hs hS
  apply sc
  ·intro a w' vs σ hS hl hs hk
   have f2 : a.tmps[2]?.getD undef = .int .i64 ↑f := sof hk
   exact rp (.int .i64 ↑f) (by simp [execOp, Act.eval, f2, go_sem]) hl hs hS
  apply sc
  ·intro a w' vs σ hS hl hs hk
   have f3 : a.tmps[3]?.getD undef = .int .i64 ↑t := sof hk
   exact rp (.int .i64 ↑t) (by simp [execOp, Act.eval, f3, go_sem]) hl hs hS
  apply sc
  ·intro a w' vs σ hS hl hs hk
   have f58 : a.tmps[58]?.getD undef = .slice (some ⟨g, 0, none⟩) l.1.length c := sf hk 0
   have f59 : a.tmps[59]?.getD undef = .int .i64 ↑f := sf hk 1
   have f60 : a.tmps[60]?.getD undef = .int .i64 ↑t := sf hk 2
   exact rs_run (wanted_none rfl) (exec_slice rfl (by simp [Act.eval, f58, f59, f60]) (by simp [Act.eval, f58, f59, f60]; try rfl) (by simp [Act.eval, f58, f59, f60]; try rfl) (run_mid w' g l.1.length c f t (by omega) (by omega) (by omega) (by omega) (by omega))) (sp_same (by kernel_rfl) hl hs hS (show (.slice (some ⟨g, f * 16, none⟩) (t - f) (c - f) : Value) = _ from rfl))
  apply sc
  ·intro a w' vs σ hS hl hs hk
   have f9 : a.tmps[9]?.getD undef = .pointer (some ⟨b9, 0, none⟩) := sof hk
   have hx := (hS.box (sg (hs 3 (by decide)))).penAt
   exact rp (.agg (pv q)) (by simp [execOp, Act.eval, f9, go_sem, hx]) hl hs hS
  apply sc
  ·intro a w' vs σ hS hl hs hk
   have e61 : a.tmps.getD 61 undef = .slice (some ⟨g, f * 16, none⟩) (t - f) (c - f) := sv hk 3
   have e62 : a.tmps.getD 62 undef = .agg (pv q) := sv hk 4
   have h0 : σ[0]? = some (.cells (.slice (some ⟨g, 0, none⟩) l.1.length c) (brk t (brk f l.1))) := hs 0 (by decide)
   exact ro_call (f := 89) (wanted_none rfl) rfl (by simp only [List.map_toArray, List.map_cons, List.map_nil, Act.eval, e61, e62] <;> rfl) (fun _ _ => by kernel_rfl) ((front_call hS (sg h0) (fun os1 h => wipe_front g l.1.length c (f) (t - f) (c - f) (brk t (brk f l.1)) q w0 w' os1 h (by rw [brk_length, brk_length]; omega) (by omega) (by rw [brk_length, brk_length]; omega))).mono fun e w2 ⟨h1, h2⟩ => ⟨_, h1, sp_set 0 _ (by kernel_rfl) (by simp) (by decide) hl hs (by rfl) h2 rfl, trivial⟩)
  exact SSteps.nil
 ·intro vs w' hS hv
  have q0 : vs 0 = _ := hv 0 (by decide)
  have q1 : vs 1 = _ := hv 1 (by decide)
  have q2 : vs 2 = _ := hv 2 (by decide)
  have q3 : vs 3 = _ := hv 3 (by decide)
  have q4 : vs 4 = _ := hv 4 (by decide)
  have q5 : vs 5 = _ := hv 5 (by decide)
  have S2 := Lib.hid hS
  simp only [putL, Act.put, Nat.zero_add, Nat.reduceAdd, List.setIfInBounds_toArray, List.set_cons_succ, List.set_cons_zero, q0, q1, q2, q3, q4, q5]
  clear hS hv q0 q1 q2 q3 q4 q5
  have HF := (show Objs w0 w' (_ :: _ :: _ :: _ :: os) from S2.out).closeAt HL.out
  rw [← HP.out] at HF
  go_wp2_with fail
  go_ret
  exact ⟨rfl, HF.drop2⟩
set_option maxRecDepth 100000 in
set_option maxHeartbeats 1000000 in
theorem Clear_out {row f t : Int} (q : Pen) (hT : Tabs w0) (hS : Objs w0 w (.grid p 58 cols L :: os)) (hc : 0 < cols) (hcm : cols ≤ 1000) (hno : ¬ (0 ≤ row ∧ row < L.length)) :
  Calls Tryd.prog 51 #[.pointer (some ⟨p, 0, none⟩), .int .i64 row, .int .i64 f, .int .i64 t, .agg (pv q)] w fun e w' => e = .returned (.int .i64 3) ∧ Objs w0 w' (.grid p 58 cols L :: os) := by
 have S := Lib.hid hS
 have HT := Lib.hid hT
 have HE := Lib.hid (show thereE row L = 3 by unfold thereE; rw [if_neg hno])
 clear hno
 clear hS hT
 go_enter Tryd.func51, Tryd.ntmps51
 go_wp2_with fail
 refine (there_any row S.out.alloc1 (k := 1) rfl hc).mono ?_
 rw [HE.out]
 rintro e w1 ⟨rfl, hS⟩
 have S1 := Lib.hid hS
 obtain ⟨A0, c0, hB0, -, -⟩ := hS.gridRd (k := 1) rfl
 obtain ⟨hx0, hf0, hz0⟩ := hB0.facts
 obtain ⟨hx9, hf9, hz9, hp9⟩ := (hS.box (k := 0) rfl).pbox
 clear hS S hB0
 generalize w.heap.size = b9 at S1 hx9 hf9 hz9 hp9 ⊢
 go_wp2_with fail
 go_ret
 exact ⟨rfl, S1.out.tail⟩
set_option maxRecDepth 100000 in
set_option maxHeartbeats 1000000 in
theorem Clear_range_a {row f t : Int} (q : Pen) (hT : Tabs w0) (hS : Objs w0 w (.grid p 58 cols L :: os)) (hc : 0 < cols) (hcm : cols ≤ 1000) (hin : 0 ≤ row ∧ row < L.length) (hft : f < 0) :
  Calls Tryd.prog 51 #[.pointer (some ⟨p, 0, none⟩), .int .i64 row, .int .i64 f, .int .i64 t, .agg (pv q)] w fun e w' => e = .returned (.int .i64 3) ∧ Objs w0 w' (.grid p 58 cols L :: os) := by
 have S := Lib.hid hS
 have HT := Lib.hid hT
 have HE := Lib.hid (show thereE row L = 0 by unfold thereE; rw [if_pos hin])
 clear hin
 clear hS hT
 go_enter Tryd.func51, Tryd.ntmps51
 go_wp2_with fail
 refine (there_any row S.out.alloc1 (k := 1) rfl hc).mono ?_
 rw [HE.out]
 rintro e w1 ⟨rfl, hS⟩
 have S1 := Lib.hid hS
 obtain ⟨A0, c0, hB0, -, -⟩ := hS.gridRd (k := 1) rfl
 obtain ⟨hx0, hf0, hz0⟩ := hB0.facts
 obtain ⟨hx9, hf9, hz9, hp9⟩ := (hS.box (k := 0) rfl).pbox
 clear hS S hB0
 generalize w.heap.size = b9 at S1 hx9 hf9 hz9 hp9 ⊢
 go_wp2_with fail
 go_ret
 exact ⟨rfl, S1.out.tail⟩
set_option maxRecDepth 100000 in
set_option maxHeartbeats 1000000 in
theorem Clear_range_b {row f t : Int} (q : Pen) (hT : Tabs w0) (hS : Objs w0 w (.grid p 58 cols L :: os)) (hc : 0 < cols) (hcm : cols ≤ 1000) (hin : 0 ≤ row ∧ row < L.length) (hft : 0 ≤ f ∧ t < f) :
  Calls Tryd.prog 51 #[.pointer (some ⟨p, 0, none⟩), .int .i64 row, .int .i64 f, .int .i64 t, .agg (pv q)] w fun e w' => e = .returned (.int .i64 3) ∧ Objs w0 w' (.grid p 58 cols L :: os) := by
 have S := Lib.hid hS
 have HT := Lib.hid hT
 have HE := Lib.hid (show thereE row L = 0 by unfold thereE; rw [if_pos hin])
 clear hin
 clear hS hT
 go_enter Tryd.func51, Tryd.ntmps51
 go_wp2_with fail
 refine (there_any row S.out.alloc1 (k := 1) rfl hc).mono ?_
 rw [HE.out]
 rintro e w1 ⟨rfl, hS⟩
 have S1 := Lib.hid hS
 obtain ⟨A0, c0, hB0, -, -⟩ := hS.gridRd (k := 1) rfl
 obtain ⟨hx0, hf0, hz0⟩ := hB0.facts
 obtain ⟨hx9, hf9, hz9, hp9⟩ := (hS.box (k := 0) rfl).pbox
 clear hS S hB0
 generalize w.heap.size = b9 at S1 hx9 hf9 hz9 hp9 ⊢
 go_wp2_with fail
 go_ret
 exact ⟨rfl, S1.out.tail⟩
set_option maxRecDepth 100000 in
set_option maxHeartbeats 1000000 in
theorem Clear_range_c {row f t : Int} (q : Pen) (hT : Tabs w0) (hS : Objs w0 w (.grid p 58 cols L :: os)) (hc : 0 < cols) (hcm : cols ≤ 1000) (hin : 0 ≤ row ∧ row < L.length) (hft : 0 ≤ f ∧ f ≤ t ∧ (cols : Int) < t) :
  Calls Tryd.prog 51 #[.pointer (some ⟨p, 0, none⟩), .int .i64 row, .int .i64 f, .int .i64 t, .agg (pv q)] w fun e w' => e = .returned (.int .i64 3) ∧ Objs w0 w' (.grid p 58 cols L :: os) := by
 have S := Lib.hid hS
 have HT := Lib.hid hT
 have HE := Lib.hid (show thereE row L = 0 by unfold thereE; rw [if_pos hin])
 clear hin
 clear hS hT
 go_enter Tryd.func51, Tryd.ntmps51
 go_wp2_with fail
 refine (there_any row S.out.alloc1 (k := 1) rfl hc).mono ?_
 rw [HE.out]
 rintro e w1 ⟨rfl, hS⟩
 have S1 := Lib.hid hS
 obtain ⟨A0, c0, hB0, -, -⟩ := hS.gridRd (k := 1) rfl
 obtain ⟨hx0, hf0, hz0⟩ := hB0.facts
 obtain ⟨hx9, hf9, hz9, hp9⟩ := (hS.box (k := 0) rfl).pbox
 clear hS S hB0
 generalize w.heap.size = b9 at S1 hx9 hf9 hz9 hp9 ⊢
 go_wp2_with fail
 go_ret
 exact ⟨rfl, S1.out.tail⟩
set_option maxRecDepth 100000 in
set_option maxHeartbeats 1000000 in
theorem Clear_pen {row f t : Int} (q : Pen) (hT : Tabs w0) (hS : Objs w0 w (.grid p 58 cols L :: os)) (hc : 0 < cols) (hcm : cols ≤ 1000) (hin : 0 ≤ row ∧ row < L.length) (hft : 0 ≤ f ∧ f ≤ t ∧ t ≤ cols) (hq : q.ok = false) :
  Calls Tryd.prog 51 #[.pointer (some ⟨p, 0, none⟩), .int .i64 row, .int .i64 f, .int .i64 t, .agg (pv q)] w fun e w' => e = .returned (.int .i64 2) ∧ Objs w0 w' (.grid p 58 cols L :: os) := by
 have S := Lib.hid hS
 have HT := Lib.hid hT
 have HE := Lib.hid (show thereE row L = 0 by unfold thereE; rw [if_pos hin])
 clear hin
 have HQ := Lib.hid hq
 clear hq
 clear hS hT
 go_enter Tryd.func51, Tryd.ntmps51
 go_wp2_with fail
 refine (there_any row S.out.alloc1 (k := 1) rfl hc).mono ?_
 rw [HE.out]
 rintro e w1 ⟨rfl, hS⟩
 have S1 := Lib.hid hS
 obtain ⟨A0, c0, hB0, -, -⟩ := hS.gridRd (k := 1) rfl
 obtain ⟨hx0, hf0, hz0⟩ := hB0.facts
 obtain ⟨hx9, hf9, hz9, hp9⟩ := (hS.box (k := 0) rfl).pbox
 clear hS S hB0
 generalize w.heap.size = b9 at S1 hx9 hf9 hz9 hp9 ⊢
 go_wp2_with fail
 refine (inked_is HQ.out HT.out S1.out).mono ?_
 rintro e w2 ⟨rfl, hS⟩
 have S2 := Lib.hid hS
 clear hS
 go_wp2_with fail
 go_ret
 exact ⟨rfl, S2.out.tail⟩
set_option maxRecDepth 100000 in
set_option maxHeartbeats 1000000 in
theorem Clear_none {row f t : Int} (q : Pen) (hT : Tabs w0) (hS : Objs w0 w (.grid p 58 cols L :: os)) (hc : 0 < cols) (hcm : cols ≤ 1000) (hin : 0 ≤ row ∧ row < L.length) (hft : 0 ≤ f ∧ f = t ∧ t ≤ cols) (hq : q.ok = true) :
  Calls Tryd.prog 51 #[.pointer (some ⟨p, 0, none⟩), .int .i64 row, .int .i64 f, .int .i64 t, .agg (pv q)] w fun e w' => e = .returned (.int .i64 0) ∧ Objs w0 w' (.grid p 58 cols L :: os) := by
 have S := Lib.hid hS
 have HT := Lib.hid hT
 have HE := Lib.hid (show thereE row L = 0 by unfold thereE; rw [if_pos hin])
 clear hin
 have HQ := Lib.hid hq
 obtain ⟨hf, rfl, hft⟩ := hft
 clear hq
 clear hS hT
 go_enter Tryd.func51, Tryd.ntmps51
 go_wp2_with fail
 refine (there_any row S.out.alloc1 (k := 1) rfl hc).mono ?_
 rw [HE.out]
 rintro e w1 ⟨rfl, hS⟩
 have S1 := Lib.hid hS
 obtain ⟨A0, c0, hB0, -, -⟩ := hS.gridRd (k := 1) rfl
 obtain ⟨hx0, hf0, hz0⟩ := hB0.facts
 obtain ⟨hx9, hf9, hz9, hp9⟩ := (hS.box (k := 0) rfl).pbox
 clear hS S hB0
 generalize w.heap.size = b9 at S1 hx9 hf9 hz9 hp9 ⊢
 go_wp2_with fail
 refine (inked_is HQ.out HT.out S1.out).mono ?_
 rintro e w2 ⟨rfl, hS⟩
 have S2 := Lib.hid hS
 clear hS
 go_wp2_with fail
 go_ret
 exact ⟨rfl, S2.out.tail⟩
set_option maxRecDepth 100000 in
set_option maxHeartbeats 4000000 in
theorem Shift_right {i j k : Nat} {l : Ln} (q : Pen) (hT : Tabs w0) (hS : Objs w0 w (.grid p 58 cols L :: os)) (hc : 0 < cols) (hcm : cols ≤ 1000) (hl : L[i]? = some l) (hrow : l.1.length = cols) (hq : q.ok = true) (n : Int) (hj : j < cols) (hn : 0 < n) (hn2 : n ≤ 9223372036854775807) (hk : (k : Int) = min n ((cols - j : Nat) : Int)) :
  Calls Tryd.prog 52 #[.pointer (some ⟨p, 0, none⟩), .int .i64 i, .int .i64 j, .int .i64 n, .agg (pv q)] w fun e w' => e = .returned (.int .i64 0) ∧ Objs w0 w' (.grid p 58 cols (L.set i (shiftR j k q l.1, l.2)) :: os) := by
 have S := Lib.hid hS
 have hi : i < L.length := (List.getElem?_eq_some_iff.1 hl).1
 have HL := Lib.hid hl
 have HT := Lib.hid hT
 have HQ := Lib.hid hq
 have HROW := Lib.hid hrow
 have hlr : l.1.length ≤ 1000 := by omega
 have hlr2 : cols ≤ l.1.length := by omega
 have hlr3 : l.1.length ≤ cols := by omega
 have HE := Lib.hid (show atE i j cols L = 0 by unfold atE; rw [if_pos ⟨⟨by omega, by omega⟩, by omega, by omega⟩])
 have hkj : j + k ≤ cols := by omega
 have hk1 : 1 ≤ k := by omega
 have hn0 : (n == 0) = false := by simp; omega
 have HP := Lib.hid (show wipeC j (j + k - j) q ((brk (cols - k) (brk j l.1)).take (j + k) ++ (((brk (cols - k) (brk j l.1)).drop j).take (cols - k - j) ++ (brk (cols - k) (brk j l.1)).drop (j + k + (cols - k - j)))) = shiftR j k q l.1 by
  have hb : (brk (cols - k) (brk j l.1)).length = cols := by rw [brk_length, brk_length, hrow]
  have h := shiftR_is (j := j) (k := k) (q := q) (l := brk (cols - k) (brk j l.1)) (by omega)
  rw [hb] at h
  rw [show j + k - j = k by omega, h]
  unfold shiftR
  rw [hrow])
 have hmin : min n ((cols : Int) - j) = (k : Int) := by omega
 clear hS hT hl hrow hq hk
 go_enter Tryd.func52, Tryd.ntmps52
 go_wp2_with fail
 refine (at_any i j S.out.alloc1 (k := 1) rfl hc).mono ?_
 rw [HE.out]
 rintro e w1 ⟨rfl, hS⟩
 have S1 := Lib.hid hS
 obtain ⟨A0, c0, hB0, -, -⟩ := hS.gridRd (k := 1) rfl
 obtain ⟨hx0, hf0, hz0⟩ := hB0.facts
 obtain ⟨hx9, hf9, hz9, hp9⟩ := (hS.box (k := 0) rfl).pbox
 clear hS S hB0
 generalize w.heap.size = b9 at S1 hx9 hf9 hz9 hp9 ⊢
 go_wp2_with fail
 refine (inked_is HQ.out HT.out S1.out).mono ?_
 rintro e w2 ⟨rfl, hS⟩
 have S2 := Lib.hid hS
 clear hS hx0 hf0 hz0 hx9 hf9 hz9 hp9
 obtain ⟨v, b, hS3⟩ := S2.out.swap.openAt HL.out
 obtain ⟨A, c, rfl, hrd⟩ := hS3.cellsRd (k := 0) rfl
 have hnc : l.1.length ≤ c := hrd.1
 obtain ⟨g, rfl, -, -, -, -⟩ := (hS3.own (k := 0) rfl).head (by omega)
 obtain ⟨gr, cr, rfl, h1, h2, h3, h4, h5, h6, h7⟩ := hS3.linesxRd (k := 1) rfl
 obtain ⟨hx2, hf2, hz2⟩ := (hS3.box (k := 2) rfl).facts
 have hlen2 : L.length ≤ 9223372036854775807 := by unfold maxLen at h2; omega
 have S3 := Lib.hid hS3
 clear hS3 h1 h2 h6 hrd
 go_wp2_with fail
 refine (split_at (c := j) S3.out rfl rfl (by omega) (by omega)).mono ?_
 rintro e w4 ⟨rfl, hS4⟩
 have S4 := Lib.hid hS4
 obtain ⟨hx2, hf2, hz2⟩ := (hS4.box (k := 2) rfl).facts
 clear hS4 h4 h5 h7
 go_wp2_with fail
 refine (split_at (n := (cols : Int) - k) (c := cols - k) S4.out (by rw [brk_length]) (by omega) (by rw [brk_length]; omega) (by omega)).mono ?_
 rintro e w5 ⟨rfl, hS5⟩
 have S5 := Lib.hid hS5
 have HW1 := Lib.hid (show IntKind.i64.wrap ((j : Int) + k) = ((j + k : Nat) : Int) by rw [IntWalk.i64_in _ (by omega)]; omega)
 have HW2 := Lib.hid (show IntKind.i64.wrap ((cols : Int) - k) = ((cols - k : Nat) : Int) by rw [IntWalk.i64_in _ (by omega)]; omega)
 clear hmin hn0
 clear hS5 hx2 hf2 hz2
 go_upto_region 14 with (fail)
 refine wp_region_stage (w0 := w0) (os := os) (by kernel_rfl) (by kernel_rfl) (by kernel_rfl) [(0, 14, [], fun vs => .cells (.slice (some ⟨g, 0, none⟩) l.1.length c) ((brk (cols - k) (brk j l.1)).take (j + k) ++ (((brk (cols - k) (brk j l.1)).drop j).take (cols - k - j) ++ (brk (cols - k) (brk j l.1)).drop (j + k + (cols - k - j)))))] [[], [], [], [], [], [], [], [], [], [], [2], [], [], [], [0]] [.cells (.slice (some ⟨g, 0, none⟩) l.1.length c) (brk (cols - k) (brk j l.1)), .linesx (.slice (some ⟨gr, 0, none⟩) L.length cr) L i (.slice (some ⟨g, 0, none⟩) l.1.length c), .box p 58 #[.int .i64 ↑cols, .slice (some ⟨gr, 0, none⟩) L.length cr], .box b9 54 (pv q)] (fun i u => match i with | 0 => u = .slice (some ⟨g, 0, none⟩) l.1.length c | 1 => u = .int .i64 ↑j | 2 => u = .int .i64 ↑k | 3 => u = .int .i64 ↑(j + k) | 4 => u = .slice (tailA (some ⟨g, 0, none⟩) c (j + k)) (l.1.length - (j + k)) (c - (j + k)) | 5 => u = .slice (some ⟨g, 0, none⟩) l.1.length c | 6 => u = .int .i64 ↑j | 7 => u = pt p 0 | 8 => u = pt p 0 | 9 => u = pt p 0 | 10 => u = .int .i64 ↑cols | 11 => u = .int .i64 ↑k | 12 => u = .int .i64 ↑(cols - k) | 13 => u = .slice (some ⟨g, j * 16, none⟩) (cols - k - j) (c - j) | 14 => True | _ => True) (fun vs => [.cells (.slice (some ⟨g, 0, none⟩) l.1.length c) ((brk (cols - k) (brk j l.1)).take (j + k) ++ (((brk (cols - k) (brk j l.1)).drop j).take (cols - k - j) ++ (brk (cols - k) (brk j l.1)).drop (j + k + (cols - k - j)))), .linesx (.slice (some ⟨gr, 0, none⟩) L.length cr) L i (.slice (some ⟨g, 0, none⟩) l.1.length c), .box p 58 #[.int .i64 ↑cols, .slice (some ⟨gr, 0, none⟩) L.length cr], .box b9 54 (pv q)]) (by kernel_rfl) (fun vs => by rfl) S5.out ?_ ?_
 ·apply sc
  ·intro a w' vs σ hS hl hs hk
   have f12 : a.tmps[12]?.getD undef = .slice (some ⟨g, 0, none⟩) l.1.length c := sof hk
   exact rp (.slice (some ⟨g, 0, none⟩) l.1.length c) (by simp [execOp, Act.eval, f12, go_sem]) hl hs hS
  apply sc
  ·intro a w' vs σ hS hl hs hk
   have f2 : a.tmps[2]?.getD undef = .int .i64 ↑j := sof hk
   exact rp (.int .i64 ↑j) (by simp [execOp, Act.eval, f2, go_sem]) hl hs hS
  apply sc
  ·intro a w' vs σ hS hl hs hk
   have f14 : a.tmps[14]?.getD undef = .int .i64 ↑k := sof hk
   exact rp (.int .i64 ↑k) (by simp [execOp, Act.eval, f14, go_sem]) hl hs hS
  apply sc
  ·intro a w' vs σ hS hl hs hk
   have f62 : a.tmps[62]?.getD undef = .int .i64 ↑j := sf hk 1
   have f63 : a.tmps[63]?.getD undef = .int .i64 ↑k := sf hk 2
   exact rp (.int .i64 ↑(j + k)) (by simp [execOp, Act.eval, f62, f63, go_sem, HW1.out]) hl hs hS
  apply sc
  ·intro a w' vs σ hS hl hs hk
   have f61 : a.tmps[61]?.getD undef = .slice (some ⟨g, 0, none⟩) l.1.length c := sf hk 0
   have f64 : a.tmps[64]?.getD undef = .int .i64 ↑(j + k) := sf hk 3
   exact rs_run (wanted_none rfl) (exec_slice rfl (by simp [Act.eval, f61, f64]) (by simp [Act.eval, f61, f64]; try rfl) (by simp [Act.eval, f61, f64]; try rfl) (run_from w' (some ⟨g, 0, none⟩) l.1.length c (j + k) (by omega) (by omega) (fun h => by cases h) (by omega))) (sp_same (by kernel_rfl) hl hs hS (show (.slice (tailA (some ⟨g, 0, none⟩) c (j + k)) (l.1.length - (j + k)) (c - (j + k)) : Value) = _ from rfl))
  apply sc
  ·intro a w' vs σ hS hl hs hk
   have f12 : a.tmps[12]?.getD undef = .slice (some ⟨g, 0, none⟩) l.1.length c := sof hk
   exact rp (.slice (some ⟨g, 0, none⟩) l.1.length c) (by simp [execOp, Act.eval, f12, go_sem]) hl hs hS
  apply sc
  ·intro a w' vs σ hS hl hs hk
   have f2 : a.tmps[2]?.getD undef = .int .i64 ↑j := sof hk
   exact rp (.int .i64 ↑j) (by simp [execOp, Act.eval, f2, go_sem]) hl hs hS
  apply sc
  ·intro a w' vs σ hS hl hs hk
   have f0 : a.tmps[0]?.getD undef = .pointer (some ⟨p, 0, none⟩) := sof hk
   exact rp (pt p 0) (by simp [execOp, Act.eval, f0, go_sem]) hl hs hS
  apply sc
  ·intro a w' vs σ hS hl hs hk
   have f68 : a.tmps[68]?.getD undef = .pointer (some ⟨p, 0, none⟩) := sf hk 7
   exact rp (pt p 0) (by simp [execOp, Act.eval, f68, go_sem]) hl hs hS
  apply sc
  ·intro a w' vs σ hS hl hs hk
   have f69 : a.tmps[69]?.getD undef = .pointer (some ⟨p, 0, none⟩) := sf hk 8
   exact rp (pt p 0) (by simp [execOp, Act.eval, f69, go_sem]) hl hs hS
  apply sc
  ·intro a w' vs σ hS hl hs hk
   have f70 : a.tmps[70]?.getD undef = .pointer (some ⟨p, 0, none⟩) := sf hk 9
   have hx := (hS.box (sg (hs 2 (by decide)))).cell
   exact rp (.int .i64 ↑cols) (by simp [execOp, Act.eval, f70, go_sem, hx]) hl hs hS
  apply sc
  ·intro a w' vs σ hS hl hs hk
   have f14 : a.tmps[14]?.getD undef = .int .i64 ↑k := sof hk
   exact rp (.int .i64 ↑k) (by simp [execOp, Act.eval, f14, go_sem]) hl hs hS
  apply sc
  ·intro a w' vs σ hS hl hs hk
   have f71 : a.tmps[71]?.getD undef = .int .i64 ↑cols := sf hk 10
   have f72 : a.tmps[72]?.getD undef = .int .i64 ↑k := sf hk 11
   exact rp (.int .i64 ↑(cols - k)) (by simp [execOp, Act.eval, f71, f72, go_sem, HW2.out]) hl hs hS
  apply sc
  ·intro a w' vs σ hS hl hs hk
   have f66 : a.tmps[66]?.getD undef = .slice (some ⟨g, 0, none⟩) l.1.length c := sf hk 5
   have f67 : a.tmps[67]?.getD undef = .int .i64 ↑j := sf hk 6
   have f73 : a.tmps[73]?.getD undef = .int .i64 ↑(cols - k) := sf hk 12
   exact rs_run (wanted_none rfl) (exec_slice rfl (by simp [Act.eval, f66, f67, f73]) (by simp [Act.eval, f66, f67, f73]; try rfl) (by simp [Act.eval, f66, f67, f73]; try rfl) (run_mid w' g l.1.length c j (cols - k) (by omega) (by omega) (by omega) (by omega) (by omega))) (sp_same (by kernel_rfl) hl hs hS (show (.slice (some ⟨g, j * 16, none⟩) (cols - k - j) (c - j) : Value) = _ from rfl))
  apply sc
  ·intro a w' vs σ hS hl hs hk
   have e65 : a.tmps.getD 65 undef = .slice (tailA (some ⟨g, 0, none⟩) c (j + k)) (l.1.length - (j + k)) (c - (j + k)) := sv hk 4
   have e74 : a.tmps.getD 74 undef = .slice (some ⟨g, j * 16, none⟩) (cols - k - j) (c - j) := sv hk 13
   have h0 : σ[0]? = some (.cells (.slice (some ⟨g, 0, none⟩) l.1.length c) (brk (cols - k) (brk j l.1))) := hs 0 (by decide)
   obtain ⟨W, hr, hW⟩ := run_copyO hS (sg h0) (j + k) (j) (cols - k - j) (tailA (some ⟨g, 0, none⟩) c (j + k)) (some ⟨g, j * 16, none⟩) (l.1.length - (j + k)) (c - (j + k)) (cols - k - j) (c - j) (by show min (cols - k - j) (l.1.length - (j + k)) = _; omega) (by rw [brk_length, brk_length]; omega) (by rw [brk_length, brk_length]; omega) (fun hp => ⟨tailA_at (by omega), rfl⟩) 3
   exact rs_run (wanted_none rfl) (exec_copy rfl (by simp only [Act.eval]; exact e65) (by simp only [Act.eval]; exact e74) hr) (sp_set 0 _ (by kernel_rfl) (by simp) (by decide) hl hs (by rfl) hW trivial)
  exact SSteps.nil
 ·intro vs w' hS hv
  have q0 : vs 0 = _ := hv 0 (by decide)
  have q1 : vs 1 = _ := hv 1 (by decide)
  have q2 : vs 2 = _ := hv 2 (by decide)
  have q3 : vs 3 = _ := hv 3 (by decide)
  have q4 : vs 4 = _ := hv 4 (by decide)
  have q5 : vs 5 = _ := hv 5 (by decide)
  have q6 : vs 6 = _ := hv 6 (by decide)
  have q7 : vs 7 = _ := hv 7 (by decide)
  have q8 : vs 8 = _ := hv 8 (by decide)
  have q9 : vs 9 = _ := hv 9 (by decide)
  have q10 : vs 10 = _ := hv 10 (by decide)
  have q11 : vs 11 = _ := hv 11 (by decide)
  have q12 : vs 12 = _ := hv 12 (by decide)
  have q13 : vs 13 = _ := hv 13 (by decide)
  have S2 := Lib.hid hS
  simp only [putL, Act.put, Nat.zero_add, Nat.reduceAdd, List.setIfInBounds_toArray, List.set_cons_succ, List.set_cons_zero, q0, q1, q2, q3, q4, q5, q6, q7, q8, q9, q10, q11, q12, q13]
  clear hS hv q0 q1 q2 q3 q4 q5 q6 q7 q8 q9 q10 q11 q12 q13
  clear S5
  have S6 := S2
  clear S2
  have HCL := Lib.hid (show ((brk (cols - k) (brk j l.1)).take (j + k) ++ (((brk (cols - k) (brk j l.1)).drop j).take (cols - k - j) ++ (brk (cols - k) (brk j l.1)).drop (j + k + (cols - k - j)))).length = cols by simp only [List.length_append, List.length_take, List.length_drop, brk_length]; omega)
  go_upto_region 15 with (fail)
  refine wp_region_stage (w0 := w0) (os := os) (by kernel_rfl) (by kernel_rfl) (by kernel_rfl) [(0, 7, [], fun vs => .cells (.slice (some ⟨g, 0, none⟩) l.1.length c) (wipeC j (j + k - j) q ((brk (cols - k) (brk j l.1)).take (j + k) ++ (((brk (cols - k) (brk j l.1)).drop j).take (cols - k - j) ++ (brk (cols - k) (brk j l.1)).drop (j + k + (cols - k - j))))))] [[], [], [], [], [], [], [3], [0]] [.cells (.slice (some ⟨g, 0, none⟩) l.1.length c) ((brk (cols - k) (brk j l.1)).take (j + k) ++ (((brk (cols - k) (brk j l.1)).drop j).take (cols - k - j) ++ (brk (cols - k) (brk j l.1)).drop (j + k + (cols - k - j)))), .linesx (.slice (some ⟨gr, 0, none⟩) L.length cr) L i (.slice (some ⟨g, 0, none⟩) l.1.length c), .box p 58 #[.int .i64 ↑cols, .slice (some ⟨gr, 0, none⟩) L.length cr], .box b9 54 (pv q)] (fun i u => match i with | 0 => u = .slice (some ⟨g, 0, none⟩) l.1.length c | 1 => u = .int .i64 ↑j | 2 => u = .int .i64 ↑j | 3 => u = .int .i64 ↑k | 4 => u = .int .i64 ↑(j + k) | 5 => u = .slice (some ⟨g, j * 16, none⟩) (j + k - j) (c - j) | 6 => u = .agg (pv q) | 7 => u = .tuple #[] | _ => True) (fun vs => [.cells (.slice (some ⟨g, 0, none⟩) l.1.length c) (wipeC j (j + k - j) q ((brk (cols - k) (brk j l.1)).take (j + k) ++ (((brk (cols - k) (brk j l.1)).drop j).take (cols - k - j) ++ (brk (cols - k) (brk j l.1)).drop (j + k + (cols - k - j))))), .linesx (.slice (some ⟨gr, 0, none⟩) L.length cr) L i (.slice (some ⟨g, 0, none⟩) l.1.length c), .box p 58 #[.int .i64 ↑cols, .slice (some ⟨gr, 0, none⟩) L.length cr], .box b9 54 (pv q)]) (by kernel_rfl) (fun vs => by rfl) S6.out ?_ ?_
  ·apply sc
   ·intro a w' vs σ hS hl hs hk
    have f12 : a.tmps[12]?.getD undef = .slice (some ⟨g, 0, none⟩) l.1.length c := sof hk
    exact rp (.slice (some ⟨g, 0, none⟩) l.1.length c) (by simp [execOp, Act.eval, f12, go_sem]) hl hs hS
   apply sc
   ·intro a w' vs σ hS hl hs hk
    have f2 : a.tmps[2]?.getD undef = .int .i64 ↑j := sof hk
    exact rp (.int .i64 ↑j) (by simp [execOp, Act.eval, f2, go_sem]) hl hs hS
   apply sc
   ·intro a w' vs σ hS hl hs hk
    have f2 : a.tmps[2]?.getD undef = .int .i64 ↑j := sof hk
    exact rp (.int .i64 ↑j) (by simp [execOp, Act.eval, f2, go_sem]) hl hs hS
   apply sc
   ·intro a w' vs σ hS hl hs hk
    have f14 : a.tmps[14]?.getD undef = .int .i64 ↑k := sof hk
    exact rp (.int .i64 ↑k) (by simp [execOp, Act.eval, f14, go_sem]) hl hs hS
   apply sc
   ·intro a w' vs σ hS hl hs hk
    have f78 : a.tmps[78]?.getD undef = .int .i64 ↑j := sf hk 2
    have f79 : a.tmps[79]?.getD undef = .int .i64 ↑k := sf hk 3
    exact rp (.int .i64 ↑(j + k)) (by simp [execOp, Act.eval, f78, f79, go_sem, HW1.out]) hl hs hS
   apply sc
   ·intro a w' vs σ hS hl hs hk
    have f76 : a.tmps[76]?.getD undef = .slice (some ⟨g, 0, none⟩) l.1.length c := sf hk 0
    have f77 : a.tmps[77]?.getD undef = .int .i64 ↑j := sf hk 1
    have f80 : a.tmps[80]?.getD undef = .int .i64 ↑(j + k) := sf hk 4
    exact rs_run (wanted_none rfl) (exec_slice rfl (by simp [Act.eval, f76, f77, f80]) (by simp [Act.eval, f76, f77, f80]; try rfl) (by simp [Act.eval, f76, f77, f80]; try rfl) (run_mid w' g l.1.length c j (j + k) (by omega) (by omega) (by omega) (by omega) (by omega))) (sp_same (by kernel_rfl) hl hs hS (show (.slice (some ⟨g, j * 16, none⟩) (j + k - j) (c - j) : Value) = _ from rfl))
   apply sc
   ·intro a w' vs σ hS hl hs hk
    have f9 : a.tmps[9]?.getD undef = .pointer (some ⟨b9, 0, none⟩) := sof hk
    have hx := (hS.box (sg (hs 3 (by decide)))).penAt
    exact rp (.agg (pv q)) (by simp [execOp, Act.eval, f9, go_sem, hx]) hl hs hS
   apply sc
   ·intro a w' vs σ hS hl hs hk
    have e81 : a.tmps.getD 81 undef = .slice (some ⟨g, j * 16, none⟩) (j + k - j) (c - j) := sv hk 5
    have e82 : a.tmps.getD 82 undef = .agg (pv q) := sv hk 6
    have h0 : σ[0]? = some (.cells (.slice (some ⟨g, 0, none⟩) l.1.length c) ((brk (cols - k) (brk j l.1)).take (j + k) ++ (((brk (cols - k) (brk j l.1)).drop j).take (cols - k - j) ++ (brk (cols - k) (brk j l.1)).drop (j + k + (cols - k - j))))) := hs 0 (by decide)
    exact ro_call (f := 89) (wanted_none rfl) rfl (by simp only [List.map_toArray, List.map_cons, List.map_nil, Act.eval, e81, e82] <;> rfl) (fun _ _ => by kernel_rfl) ((front_call hS (sg h0) (fun os1 h => wipe_front g l.1.length c (j) (j + k - j) (c - j) ((brk (cols - k) (brk j l.1)).take (j + k) ++ (((brk (cols - k) (brk j l.1)).drop j).take (cols - k - j) ++ (brk (cols - k) (brk j l.1)).drop (j + k + (cols - k - j)))) q w0 w' os1 h (by have := HCL.out; omega) (by omega) (by have := HCL.out; omega))).mono fun e w2 ⟨h1, h2⟩ => ⟨_, h1, sp_set 0 _ (by kernel_rfl) (by simp) (by decide) hl hs (by rfl) h2 rfl, trivial⟩)
   exact SSteps.nil
  ·intro vs w' hS hv
   have q0 : vs 0 = _ := hv 0 (by decide)
   have q1 : vs 1 = _ := hv 1 (by decide)
   have q2 : vs 2 = _ := hv 2 (by decide)
   have q3 : vs 3 = _ := hv 3 (by decide)
   have q4 : vs 4 = _ := hv 4 (by decide)
   have q5 : vs 5 = _ := hv 5 (by decide)
   have q6 : vs 6 = _ := hv 6 (by decide)
   have q7 : vs 7 = _ := hv 7 (by decide)
   have S2 := Lib.hid hS
   simp only [putL, Act.put, Nat.zero_add, Nat.reduceAdd, List.setIfInBounds_toArray, List.set_cons_succ, List.set_cons_zero, q0, q1, q2, q3, q4, q5, q6, q7]
   clear hS hv q0 q1 q2 q3 q4 q5 q6 q7
   have HF := (show Objs w0 w' (_ :: _ :: _ :: _ :: os) from S2.out).closeAt HL.out
   rw [HP.out] at HF
   go_wp2_with fail
   go_ret
   exact ⟨rfl, HF.drop2⟩
set_option maxRecDepth 100000 in
set_option maxHeartbeats 1000000 in
theorem Shift_out {row col n : Int} (q : Pen) (hT : Tabs w0) (hS : Objs w0 w (.grid p 58 cols L :: os)) (hc : 0 < cols) (hcm : cols ≤ 1000) (hno : ¬ ((0 ≤ row ∧ row < L.length) ∧ 0 ≤ col ∧ col < cols)) :
  Calls Tryd.prog 52 #[.pointer (some ⟨p, 0, none⟩), .int .i64 row, .int .i64 col, .int .i64 n, .agg (pv q)] w fun e w' => e = .returned (.int .i64 3) ∧ Objs w0 w' (.grid p 58 cols L :: os) := by
 have S := Lib.hid hS
 have HT := Lib.hid hT
 have HE := Lib.hid (show atE row col cols L = 3 by unfold atE; rw [if_neg hno])
 clear hno
 clear hS hT
 go_enter Tryd.func52, Tryd.ntmps52
 go_wp2_with fail
 refine (at_any row col S.out.alloc1 (k := 1) rfl hc).mono ?_
 rw [HE.out]
 rintro e w1 ⟨rfl, hS⟩
 have S1 := Lib.hid hS
 obtain ⟨A0, c0, hB0, -, -⟩ := hS.gridRd (k := 1) rfl
 obtain ⟨hx0, hf0, hz0⟩ := hB0.facts
 obtain ⟨hx9, hf9, hz9, hp9⟩ := (hS.box (k := 0) rfl).pbox
 clear hS S hB0
 generalize w.heap.size = b9 at S1 hx9 hf9 hz9 hp9 ⊢
 go_wp2_with fail
 go_ret
 exact ⟨rfl, S1.out.tail⟩
set_option maxRecDepth 100000 in
set_option maxHeartbeats 1000000 in
theorem Shift_pen {row col n : Int} (q : Pen) (hT : Tabs w0) (hS : Objs w0 w (.grid p 58 cols L :: os)) (hc : 0 < cols) (hcm : cols ≤ 1000) (hin : (0 ≤ row ∧ row < L.length) ∧ 0 ≤ col ∧ col < cols) (hq : q.ok = false) :
  Calls Tryd.prog 52 #[.pointer (some ⟨p, 0, none⟩), .int .i64 row, .int .i64 col, .int .i64 n, .agg (pv q)] w fun e w' => e = .returned (.int .i64 2) ∧ Objs w0 w' (.grid p 58 cols L :: os) := by
 have S := Lib.hid hS
 have HT := Lib.hid hT
 have HE := Lib.hid (show atE row col cols L = 0 by unfold atE; rw [if_pos hin])
 clear hin
 have HQ := Lib.hid hq
 clear hq
 clear hS hT
 go_enter Tryd.func52, Tryd.ntmps52
 go_wp2_with fail
 refine (at_any row col S.out.alloc1 (k := 1) rfl hc).mono ?_
 rw [HE.out]
 rintro e w1 ⟨rfl, hS⟩
 have S1 := Lib.hid hS
 obtain ⟨A0, c0, hB0, -, -⟩ := hS.gridRd (k := 1) rfl
 obtain ⟨hx0, hf0, hz0⟩ := hB0.facts
 obtain ⟨hx9, hf9, hz9, hp9⟩ := (hS.box (k := 0) rfl).pbox
 clear hS S hB0
 generalize w.heap.size = b9 at S1 hx9 hf9 hz9 hp9 ⊢
 go_wp2_with fail
 refine (inked_is HQ.out HT.out S1.out).mono ?_
 rintro e w2 ⟨rfl, hS⟩
 have S2 := Lib.hid hS
 clear hS
 go_wp2_with fail
 go_ret
 exact ⟨rfl, S2.out.tail⟩
set_option maxRecDepth 100000 in
set_option maxHeartbeats 1000000 in
theorem Shift_none {row col n : Int} (q : Pen) (hT : Tabs w0) (hS : Objs w0 w (.grid p 58 cols L :: os)) (hc : 0 < cols) (hcm : cols ≤ 1000) (hin : (0 ≤ row ∧ row < L.length) ∧ 0 ≤ col ∧ col < cols) (hq : q.ok = true) (hn : n = 0) :
  Calls Tryd.prog 52 #[.pointer (some ⟨p, 0, none⟩), .int .i64 row, .int .i64 col, .int .i64 n, .agg (pv q)] w fun e w' => e = .returned (.int .i64 0) ∧ Objs w0 w' (.grid p 58 cols L :: os) := by
 have S := Lib.hid hS
 have HT := Lib.hid hT
 have HE := Lib.hid (show atE row col cols L = 0 by unfold atE; rw [if_pos hin])
 clear hin
 have HQ := Lib.hid hq
 subst hn
 clear hq
 clear hS hT
 go_enter Tryd.func52, Tryd.ntmps52
 go_wp2_with fail
 refine (at_any row col S.out.alloc1 (k := 1) rfl hc).mono ?_
 rw [HE.out]
 rintro e w1 ⟨rfl, hS⟩
 have S1 := Lib.hid hS
 obtain ⟨A0, c0, hB0, -, -⟩ := hS.gridRd (k := 1) rfl
 obtain ⟨hx0, hf0, hz0⟩ := hB0.facts
 obtain ⟨hx9, hf9, hz9, hp9⟩ := (hS.box (k := 0) rfl).pbox
 clear hS S hB0
 generalize w.heap.size = b9 at S1 hx9 hf9 hz9 hp9 ⊢
 go_wp2_with fail
 refine (inked_is HQ.out HT.out S1.out).mono ?_
 rintro e w2 ⟨rfl, hS⟩
 have S2 := Lib.hid hS
 clear hS
 go_wp2_with fail
 go_ret
 exact ⟨rfl, S2.out.tail⟩
set_option maxRecDepth 100000 in
set_option maxHeartbeats 4000000 in
theorem Shift_left1 {i j k : Nat} {l : Ln} (q : Pen) (hT : Tabs w0) (hS : Objs w0 w (.grid p 58 cols L :: os)) (hc : 0 < cols) (hcm : cols ≤ 1000) (hl : L[i]? = some l) (hrow : l.1.length = cols) (hq : q.ok = true) (hj : j < cols) (hk1 : 1 ≤ k) (hk2 : j + k < cols) :
  Calls Tryd.prog 52 #[.pointer (some ⟨p, 0, none⟩), .int .i64 i, .int .i64 j, .int .i64 (-(k : Int)), .agg (pv q)] w fun e w' => e = .returned (.int .i64 0) ∧ Objs w0 w' (.grid p 58 cols (L.set i (shiftL j k q l.1, l.2)) :: os) := by
 have S := Lib.hid hS
 have hi : i < L.length := (List.getElem?_eq_some_iff.1 hl).1
 have HL := Lib.hid hl
 have HT := Lib.hid hT
 have HQ := Lib.hid hq
 have HROW := Lib.hid hrow
 have hlr : l.1.length ≤ 1000 := by omega
 have hlr2 : cols ≤ l.1.length := by omega
 have hlr3 : l.1.length ≤ cols := by omega
 have HE := Lib.hid (show atE i j cols L = 0 by unfold atE; rw [if_pos ⟨⟨by omega, by omega⟩, by omega, by omega⟩])
 have hkj : j + k ≤ cols := by omega
 have hk1 : 1 ≤ k := by omega
 have hn0 : ((-(k : Int)) == 0) = false := by simp; omega
 have hng : ¬ (0 < -(k : Int)) := by omega
 have hcmp : -((cols : Int) - j) < -(k : Int) := by omega
 have HP := Lib.hid (show wipeC (cols - k) (l.1.length - (cols - k)) q ((brk (j + k) (brk j l.1)).take j ++ (((brk (j + k) (brk j l.1)).drop (j + k)).take (cols - (j + k)) ++ (brk (j + k) (brk j l.1)).drop (j + (cols - (j + k))))) = shiftL j k q l.1 by
  have hb : (brk (j + k) (brk j l.1)).length = cols := by rw [brk_length, brk_length, hrow]
  have h := shiftL_is (j := j) (k := k) (q := q) (l := brk (j + k) (brk j l.1)) (by omega)
  rw [hb] at h
  rw [show l.1.length - (cols - k) = k by omega, h]
  rfl)
 clear hS hT hl hrow hq
 go_enter Tryd.func52, Tryd.ntmps52
 go_wp2_with fail
 refine (at_any i j S.out.alloc1 (k := 1) rfl hc).mono ?_
 rw [HE.out]
 rintro e w1 ⟨rfl, hS⟩
 have S1 := Lib.hid hS
 obtain ⟨A0, c0, hB0, -, -⟩ := hS.gridRd (k := 1) rfl
 obtain ⟨hx0, hf0, hz0⟩ := hB0.facts
 obtain ⟨hx9, hf9, hz9, hp9⟩ := (hS.box (k := 0) rfl).pbox
 clear hS S hB0
 generalize w.heap.size = b9 at S1 hx9 hf9 hz9 hp9 ⊢
 go_wp2_with fail
 refine (inked_is HQ.out HT.out S1.out).mono ?_
 rintro e w2 ⟨rfl, hS⟩
 have S2 := Lib.hid hS
 clear hS hx0 hf0 hz0 hx9 hf9 hz9 hp9
 obtain ⟨v, b, hS3⟩ := S2.out.swap.openAt HL.out
 obtain ⟨A, c, rfl, hrd⟩ := hS3.cellsRd (k := 0) rfl
 have hnc : l.1.length ≤ c := hrd.1
 obtain ⟨g, rfl, -, -, -, -⟩ := (hS3.own (k := 0) rfl).head (by omega)
 obtain ⟨gr, cr, rfl, h1, h2, h3, h4, h5, h6, h7⟩ := hS3.linesxRd (k := 1) rfl
 obtain ⟨hx2, hf2, hz2⟩ := (hS3.box (k := 2) rfl).facts
 have hlen2 : L.length ≤ 9223372036854775807 := by unfold maxLen at h2; omega
 have S3 := Lib.hid hS3
 clear hS3 h1 h2 h6 hrd
 go_wp2_with fail
 refine (split_at (c := j) S3.out rfl rfl (by omega) (by omega)).mono ?_
 rintro e w4 ⟨rfl, hS4⟩
 have S4 := Lib.hid hS4
 obtain ⟨hx2, hf2, hz2⟩ := (hS4.box (k := 2) rfl).facts
 clear hS4 h4 h5 h7
 go_wp2_with fail
 refine (split_at (c := j + k) S4.out (by rw [brk_length]) (by omega) (by rw [brk_length]; omega) (by omega)).mono ?_
 rintro e w5 ⟨rfl, hS5⟩
 have S5 := Lib.hid hS5
 have HW1 := Lib.hid (show IntKind.i64.wrap ((j : Int) + k) = ((j + k : Nat) : Int) by rw [IntWalk.i64_in _ (by omega)]; omega)
 have HW2 := Lib.hid (show IntKind.i64.wrap ((cols : Int) - k) = ((cols - k : Nat) : Int) by rw [IntWalk.i64_in _ (by omega)]; omega)
 clear hS5 hx2 hf2 hz2 hn0 hng hcmp
 go_upto_region 21 with (fail)
 refine wp_region_stage (w0 := w0) (os := os) (by kernel_rfl) (by kernel_rfl) (by kernel_rfl) [(0, 8, [], fun vs => .cells (.slice (some ⟨g, 0, none⟩) l.1.length c) ((brk (j + k) (brk j l.1)).take j ++ (((brk (j + k) (brk j l.1)).drop (j + k)).take (cols - (j + k)) ++ (brk (j + k) (brk j l.1)).drop (j + (cols - (j + k))))))] [[], [], [], [], [], [], [], [], [0]] [.cells (.slice (some ⟨g, 0, none⟩) l.1.length c) (brk (j + k) (brk j l.1)), .linesx (.slice (some ⟨gr, 0, none⟩) L.length cr) L i (.slice (some ⟨g, 0, none⟩) l.1.length c), .box p 58 #[.int .i64 ↑cols, .slice (some ⟨gr, 0, none⟩) L.length cr], .box b9 54 (pv q)] (fun i u => match i with | 0 => u = .slice (some ⟨g, 0, none⟩) l.1.length c | 1 => u = .int .i64 ↑j | 2 => u = .slice (tailA (some ⟨g, 0, none⟩) c j) (l.1.length - j) (c - j) | 3 => u = .slice (some ⟨g, 0, none⟩) l.1.length c | 4 => u = .int .i64 ↑j | 5 => u = .int .i64 ↑k | 6 => u = .int .i64 ↑(j + k) | 7 => u = .slice (tailA (some ⟨g, 0, none⟩) c (j + k)) (l.1.length - (j + k)) (c - (j + k)) | 8 => True | _ => True) (fun vs => [.cells (.slice (some ⟨g, 0, none⟩) l.1.length c) ((brk (j + k) (brk j l.1)).take j ++ (((brk (j + k) (brk j l.1)).drop (j + k)).take (cols - (j + k)) ++ (brk (j + k) (brk j l.1)).drop (j + (cols - (j + k))))), .linesx (.slice (some ⟨gr, 0, none⟩) L.length cr) L i (.slice (some ⟨g, 0, none⟩) l.1.length c), .box p 58 #[.int .i64 ↑cols, .slice (some ⟨gr, 0, none⟩) L.length cr], .box b9 54 (pv q)]) (by kernel_rfl) (fun vs => by rfl) S5.out ?_ ?_
 ·apply sc
  ·intro a w' vs σ hS hl hs hk
   have f12 : a.tmps[12]?.getD undef = .slice (some ⟨g, 0, none⟩) l.1.length c := sof hk
   exact rp (.slice (some ⟨g, 0, none⟩) l.1.length c) (by simp [execOp, Act.eval, f12, go_sem]) hl hs hS
  apply sc
  ·intro a w' vs σ hS hl hs hk
   have f2 : a.tmps[2]?.getD undef = .int .i64 ↑j := sof hk
   exact rp (.int .i64 ↑j) (by simp [execOp, Act.eval, f2, go_sem]) hl hs hS
  apply sc
  ·intro a w' vs σ hS hl hs hk
   have f96 : a.tmps[96]?.getD undef = .slice (some ⟨g, 0, none⟩) l.1.length c := sf hk 0
   have f97 : a.tmps[97]?.getD undef = .int .i64 ↑j := sf hk 1
   exact rs_run (wanted_none rfl) (exec_slice rfl (by simp [Act.eval, f96, f97]) (by simp [Act.eval, f96, f97]; try rfl) (by simp [Act.eval, f96, f97]; try rfl) (run_from w' (some ⟨g, 0, none⟩) l.1.length c j (by omega) (by omega) (fun h => by cases h) (by omega))) (sp_same (by kernel_rfl) hl hs hS (show (.slice (tailA (some ⟨g, 0, none⟩) c j) (l.1.length - j) (c - j) : Value) = _ from rfl))
  apply sc
  ·intro a w' vs σ hS hl hs hk
   have f12 : a.tmps[12]?.getD undef = .slice (some ⟨g, 0, none⟩) l.1.length c := sof hk
   exact rp (.slice (some ⟨g, 0, none⟩) l.1.length c) (by simp [execOp, Act.eval, f12, go_sem]) hl hs hS
  apply sc
  ·intro a w' vs σ hS hl hs hk
   have f2 : a.tmps[2]?.getD undef = .int .i64 ↑j := sof hk
   exact rp (.int .i64 ↑j) (by simp [execOp, Act.eval, f2, go_sem]) hl hs hS
  apply sc
  ·intro a w' vs σ hS hl hs hk
   have f15 : a.tmps[15]?.getD undef = .int .i64 ↑k := sof hk
   exact rp (.int .i64 ↑k) (by simp [execOp, Act.eval, f15, go_sem]) hl hs hS
  apply sc
  ·intro a w' vs σ hS hl hs hk
   have f100 : a.tmps[100]?.getD undef = .int .i64 ↑j := sf hk 4
   have f101 : a.tmps[101]?.getD undef = .int .i64 ↑k := sf hk 5
   exact rp (.int .i64 ↑(j + k)) (by simp [execOp, Act.eval, f100, f101, go_sem, HW1.out]) hl hs hS
  apply sc
  ·intro a w' vs σ hS hl hs hk
   have f99 : a.tmps[99]?.getD undef = .slice (some ⟨g, 0, none⟩) l.1.length c := sf hk 3
   have f102 : a.tmps[102]?.getD undef = .int .i64 ↑(j + k) := sf hk 6
   exact rs_run (wanted_none rfl) (exec_slice rfl (by simp [Act.eval, f99, f102]) (by simp [Act.eval, f99, f102]; try rfl) (by simp [Act.eval, f99, f102]; try rfl) (run_from w' (some ⟨g, 0, none⟩) l.1.length c (j + k) (by omega) (by omega) (fun h => by cases h) (by omega))) (sp_same (by kernel_rfl) hl hs hS (show (.slice (tailA (some ⟨g, 0, none⟩) c (j + k)) (l.1.length - (j + k)) (c - (j + k)) : Value) = _ from rfl))
  apply sc
  ·intro a w' vs σ hS hl hs hk
   have e98 : a.tmps.getD 98 undef = .slice (tailA (some ⟨g, 0, none⟩) c j) (l.1.length - j) (c - j) := sv hk 2
   have e103 : a.tmps.getD 103 undef = .slice (tailA (some ⟨g, 0, none⟩) c (j + k)) (l.1.length - (j + k)) (c - (j + k)) := sv hk 7
   have h0 : σ[0]? = some (.cells (.slice (some ⟨g, 0, none⟩) l.1.length c) (brk (j + k) (brk j l.1))) := hs 0 (by decide)
   obtain ⟨W, hr, hW⟩ := run_copyO hS (sg h0) (j) (j + k) (cols - (j + k)) (tailA (some ⟨g, 0, none⟩) c j) (tailA (some ⟨g, 0, none⟩) c (j + k)) (l.1.length - j) (c - j) (l.1.length - (j + k)) (c - (j + k)) (by show min (l.1.length - (j + k)) (l.1.length - j) = _; omega) (by rw [brk_length, brk_length]; omega) (by rw [brk_length, brk_length]; omega) (fun hp => ⟨tailA_at (by omega), tailA_at (by omega)⟩) 3
   exact rs_run (wanted_none rfl) (exec_copy rfl (by simp only [Act.eval]; exact e98) (by simp only [Act.eval]; exact e103) hr) (sp_set 0 _ (by kernel_rfl) (by simp) (by decide) hl hs (by rfl) hW trivial)
  exact SSteps.nil
 ·intro vs w' hS hv
  have q0 : vs 0 = _ := hv 0 (by decide)
  have q1 : vs 1 = _ := hv 1 (by decide)
  have q2 : vs 2 = _ := hv 2 (by decide)
  have q3 : vs 3 = _ := hv 3 (by decide)
  have q4 : vs 4 = _ := hv 4 (by decide)
  have q5 : vs 5 = _ := hv 5 (by decide)
  have q6 : vs 6 = _ := hv 6 (by decide)
  have q7 : vs 7 = _ := hv 7 (by decide)
  have S2 := Lib.hid hS
  simp only [putL, Act.put, Nat.zero_add, Nat.reduceAdd, List.setIfInBounds_toArray, List.set_cons_succ, List.set_cons_zero, q0, q1, q2, q3, q4, q5, q6, q7]
  clear hS hv q0 q1 q2 q3 q4 q5 q6 q7
  clear S5
  have S6 := S2
  clear S2
  have HCL := Lib.hid (show ((brk (j + k) (brk j l.1)).take j ++ (((brk (j + k) (brk j l.1)).drop (j + k)).take (cols - (j + k)) ++ (brk (j + k) (brk j l.1)).drop (j + (cols - (j + k))))).length = cols by simp only [List.length_append, List.length_take, List.length_drop, brk_length]; omega)
  go_upto_region 22 with (fail)
  refine wp_region_stage (w0 := w0) (os := os) (by kernel_rfl) (by kernel_rfl) (by kernel_rfl) [(0, 9, [], fun vs => .cells (.slice (some ⟨g, 0, none⟩) l.1.length c) (wipeC (cols - k) (l.1.length - (cols - k)) q ((brk (j + k) (brk j l.1)).take j ++ (((brk (j + k) (brk j l.1)).drop (j + k)).take (cols - (j + k)) ++ (brk (j + k) (brk j l.1)).drop (j + (cols - (j + k)))))))] [[], [], [], [], [2], [], [], [], [3], [0]] [.cells (.slice (some ⟨g, 0, none⟩) l.1.length c) ((brk (j + k) (brk j l.1)).take j ++ (((brk (j + k) (brk j l.1)).drop (j + k)).take (cols - (j + k)) ++ (brk (j + k) (brk j l.1)).drop (j + (cols - (j + k))))), .linesx (.slice (some ⟨gr, 0, none⟩) L.length cr) L i (.slice (some ⟨g, 0, none⟩) l.1.length c), .box p 58 #[.int .i64 ↑cols, .slice (some ⟨gr, 0, none⟩) L.length cr], .box b9 54 (pv q)] (fun i u => match i with | 0 => u = .slice (some ⟨g, 0, none⟩) l.1.length c | 1 => u = pt p 0 | 2 => u = pt p 0 | 3 => u = pt p 0 | 4 => u = .int .i64 ↑cols | 5 => u = .int .i64 ↑k | 6 => u = .int .i64 ↑(cols - k) | 7 => u = .slice (tailA (some ⟨g, 0, none⟩) c (cols - k)) (l.1.length - (cols - k)) (c - (cols - k)) | 8 => u = .agg (pv q) | 9 => u = .tuple #[] | _ => True) (fun vs => [.cells (.slice (some ⟨g, 0, none⟩) l.1.length c) (wipeC (cols - k) (l.1.length - (cols - k)) q ((brk (j + k) (brk j l.1)).take j ++ (((brk (j + k) (brk j l.1)).drop (j + k)).take (cols - (j + k)) ++ (brk (j + k) (brk j l.1)).drop (j + (cols - (j + k)))))), .linesx (.slice (some ⟨gr, 0, none⟩) L.length cr) L i (.slice (some ⟨g, 0, none⟩) l.1.length c), .box p 58 #[.int .i64 ↑cols, .slice (some ⟨gr, 0, none⟩) L.length cr], .box b9 54 (pv q)]) (by kernel_rfl) (fun vs => by rfl) S6.out ?_ ?_
  ·apply sc
   ·intro a w' vs σ hS hl hs hk
    have f12 : a.tmps[12]?.getD undef = .slice (some ⟨g, 0, none⟩) l.1.length c := sof hk
    exact rp (.slice (some ⟨g, 0, none⟩) l.1.length c) (by simp [execOp, Act.eval, f12, go_sem]) hl hs hS
   apply sc
   ·intro a w' vs σ hS hl hs hk
    have f0 : a.tmps[0]?.getD undef = .pointer (some ⟨p, 0, none⟩) := sof hk
    exact rp (pt p 0) (by simp [execOp, Act.eval, f0, go_sem]) hl hs hS
   apply sc
   ·intro a w' vs σ hS hl hs hk
    have f106 : a.tmps[106]?.getD undef = .pointer (some ⟨p, 0, none⟩) := sf hk 1
    exact rp (pt p 0) (by simp [execOp, Act.eval, f106, go_sem]) hl hs hS
   apply sc
   ·intro a w' vs σ hS hl hs hk
    have f107 : a.tmps[107]?.getD undef = .pointer (some ⟨p, 0, none⟩) := sf hk 2
    exact rp (pt p 0) (by simp [execOp, Act.eval, f107, go_sem]) hl hs hS
   apply sc
   ·intro a w' vs σ hS hl hs hk
    have f108 : a.tmps[108]?.getD undef = .pointer (some ⟨p, 0, none⟩) := sf hk 3
    have hx := (hS.box (sg (hs 2 (by decide)))).cell
    exact rp (.int .i64 ↑cols) (by simp [execOp, Act.eval, f108, go_sem, hx]) hl hs hS
   apply sc
   ·intro a w' vs σ hS hl hs hk
    have f15 : a.tmps[15]?.getD undef = .int .i64 ↑k := sof hk
    exact rp (.int .i64 ↑k) (by simp [execOp, Act.eval, f15, go_sem]) hl hs hS
   apply sc
   ·intro a w' vs σ hS hl hs hk
    have f109 : a.tmps[109]?.getD undef = .int .i64 ↑cols := sf hk 4
    have f110 : a.tmps[110]?.getD undef = .int .i64 ↑k := sf hk 5
    exact rp (.int .i64 ↑(cols - k)) (by simp [execOp, Act.eval, f109, f110, go_sem, HW2.out]) hl hs hS
   apply sc
   ·intro a w' vs σ hS hl hs hk
    have f105 : a.tmps[105]?.getD undef = .slice (some ⟨g, 0, none⟩) l.1.length c := sf hk 0
    have f111 : a.tmps[111]?.getD undef = .int .i64 ↑(cols - k) := sf hk 6
    exact rs_run (wanted_none rfl) (exec_slice rfl (by simp [Act.eval, f105, f111]) (by simp [Act.eval, f105, f111]; try rfl) (by simp [Act.eval, f105, f111]; try rfl) (run_from w' (some ⟨g, 0, none⟩) l.1.length c (cols - k) (by omega) (by omega) (fun h => by cases h) (by omega))) (sp_same (by kernel_rfl) hl hs hS (show (.slice (tailA (some ⟨g, 0, none⟩) c (cols - k)) (l.1.length - (cols - k)) (c - (cols - k)) : Value) = _ from rfl))
   apply sc
   ·intro a w' vs σ hS hl hs hk
    have f9 : a.tmps[9]?.getD undef = .pointer (some ⟨b9, 0, none⟩) := sof hk
    have hx := (hS.box (sg (hs 3 (by decide)))).penAt
    exact rp (.agg (pv q)) (by simp [execOp, Act.eval, f9, go_sem, hx]) hl hs hS
   apply sc
   ·intro a w' vs σ hS hl hs hk
    have e112 : a.tmps.getD 112 undef = .slice (tailA (some ⟨g, 0, none⟩) c (cols - k)) (l.1.length - (cols - k)) (c - (cols - k)) := sv hk 7
    have e113 : a.tmps.getD 113 undef = .agg (pv q) := sv hk 8
    have h0 : σ[0]? = some (.cells (.slice (some ⟨g, 0, none⟩) l.1.length c) ((brk (j + k) (brk j l.1)).take j ++ (((brk (j + k) (brk j l.1)).drop (j + k)).take (cols - (j + k)) ++ (brk (j + k) (brk j l.1)).drop (j + (cols - (j + k)))))) := hs 0 (by decide)
    rw [tailA_at (by omega)] at e112
    exact ro_call (f := 89) (wanted_none rfl) rfl (by simp only [List.map_toArray, List.map_cons, List.map_nil, Act.eval, e112, e113] <;> rfl) (fun _ _ => by kernel_rfl) ((front_call hS (sg h0) (fun os1 h => wipe_front g l.1.length c (cols - k) (l.1.length - (cols - k)) (c - (cols - k)) ((brk (j + k) (brk j l.1)).take j ++ (((brk (j + k) (brk j l.1)).drop (j + k)).take (cols - (j + k)) ++ (brk (j + k) (brk j l.1)).drop (j + (cols - (j + k))))) q w0 w' os1 h (by have := HCL.out; omega) (by omega) (by have := HCL.out; omega))).mono fun e w2 ⟨h1, h2⟩ => ⟨_, h1, sp_set 0 _ (by kernel_rfl) (by simp) (by decide) hl hs (by rfl) h2 rfl, trivial⟩)
   exact SSteps.nil
  ·intro vs w' hS hv
   have q0 : vs 0 = _ := hv 0 (by decide)
   have q1 : vs 1 = _ := hv 1 (by decide)
   have q2 : vs 2 = _ := hv 2 (by decide)
   have q3 : vs 3 = _ := hv 3 (by decide)
   have q4 : vs 4 = _ := hv 4 (by decide)
   have q5 : vs 5 = _ := hv 5 (by decide)
   have q6 : vs 6 = _ := hv 6 (by decide)
   have q7 : vs 7 = _ := hv 7 (by decide)
   have q8 : vs 8 = _ := hv 8 (by decide)
   have q9 : vs 9 = _ := hv 9 (by decide)
   have S2 := Lib.hid hS
   simp only [putL, Act.put, Nat.zero_add, Nat.reduceAdd, List.setIfInBounds_toArray, List.set_cons_succ, List.set_cons_zero, q0, q1, q2, q3, q4, q5, q6, q7, q8, q9]
   clear hS hv q0 q1 q2 q3 q4 q5 q6 q7 q8 q9
   have HF := (show Objs w0 w' (_ :: _ :: _ :: _ :: os) from S2.out).closeAt HL.out
   rw [HP.out] at HF
   go_wp2_with fail
   go_ret
   exact ⟨rfl, HF.drop2⟩
set_option maxRecDepth 100000 in
set_option maxHeartbeats 4000000 in
theorem Shift_left2 {i j k : Nat} {l : Ln} (q : Pen) (hT : Tabs w0) (hS : Objs w0 w (.grid p 58 cols L :: os)) (hc : 0 < cols) (hcm : cols ≤ 1000) (hl : L[i]? = some l) (hrow : l.1.length = cols) (hq : q.ok = true) (n : Int) (hj : j < cols) (hk3 : j + k = cols) (hn : n ≤ -(k : Int)) (hn2 : -9223372036854775808 ≤ n) :
  Calls Tryd.prog 52 #[.pointer (some ⟨p, 0, none⟩), .int .i64 i, .int .i64 j, .int .i64 n, .agg (pv q)] w fun e w' => e = .returned (.int .i64 0) ∧ Objs w0 w' (.grid p 58 cols (L.set i (shiftL j k q l.1, l.2)) :: os) := by
 have S := Lib.hid hS
 have hi : i < L.length := (List.getElem?_eq_some_iff.1 hl).1
 have HL := Lib.hid hl
 have HT := Lib.hid hT
 have HQ := Lib.hid hq
 have HROW := Lib.hid hrow
 have hlr : l.1.length ≤ 1000 := by omega
 have hlr2 : cols ≤ l.1.length := by omega
 have hlr3 : l.1.length ≤ cols := by omega
 have HE := Lib.hid (show atE i j cols L = 0 by unfold atE; rw [if_pos ⟨⟨by omega, by omega⟩, by omega, by omega⟩])
 have hkj : j + k ≤ cols := by omega
 have hk1 : 1 ≤ k := by omega
 have hn0 : (n == 0) = false := by simp; omega
 have hng : ¬ (0 < n) := by omega
 have hcmp : ¬ (-((cols : Int) - j) < n) := by omega
 have hck : (cols : Int) - j = k := by omega
 have HP := Lib.hid (show wipeC (cols - k) (l.1.length - (cols - k)) q ((brk (j + k) (brk j l.1)).take j ++ (((brk (j + k) (brk j l.1)).drop (j + k)).take (cols - (j + k)) ++ (brk (j + k) (brk j l.1)).drop (j + (cols - (j + k))))) = shiftL j k q l.1 by
  have hb : (brk (j + k) (brk j l.1)).length = cols := by rw [brk_length, brk_length, hrow]
  have h := shiftL_is (j := j) (k := k) (q := q) (l := brk (j + k) (brk j l.1)) (by omega)
  rw [hb] at h
  rw [show l.1.length - (cols - k) = k by omega, h]
  rfl)
 clear hS hT hl hrow hq
 go_enter Tryd.func52, Tryd.ntmps52
 go_wp2_with fail
 refine (at_any i j S.out.alloc1 (k := 1) rfl hc).mono ?_
 rw [HE.out]
 rintro e w1 ⟨rfl, hS⟩
 have S1 := Lib.hid hS
 obtain ⟨A0, c0, hB0, -, -⟩ := hS.gridRd (k := 1) rfl
 obtain ⟨hx0, hf0, hz0⟩ := hB0.facts
 obtain ⟨hx9, hf9, hz9, hp9⟩ := (hS.box (k := 0) rfl).pbox
 clear hS S hB0
 generalize w.heap.size = b9 at S1 hx9 hf9 hz9 hp9 ⊢
 go_wp2_with fail
 refine (inked_is HQ.out HT.out S1.out).mono ?_
 rintro e w2 ⟨rfl, hS⟩
 have S2 := Lib.hid hS
 clear hS hx0 hf0 hz0 hx9 hf9 hz9 hp9
 obtain ⟨v, b, hS3⟩ := S2.out.swap.openAt HL.out
 obtain ⟨A, c, rfl, hrd⟩ := hS3.cellsRd (k := 0) rfl
 have hnc : l.1.length ≤ c := hrd.1
 obtain ⟨g, rfl, -, -, -, -⟩ := (hS3.own (k := 0) rfl).head (by omega)
 obtain ⟨gr, cr, rfl, h1, h2, h3, h4, h5, h6, h7⟩ := hS3.linesxRd (k := 1) rfl
 obtain ⟨hx2, hf2, hz2⟩ := (hS3.box (k := 2) rfl).facts
 have hlen2 : L.length ≤ 9223372036854775807 := by unfold maxLen at h2; omega
 have S3 := Lib.hid hS3
 clear hS3 h1 h2 h6 hrd
 go_wp2_with fail
 refine (split_at (c := j) S3.out rfl rfl (by omega) (by omega)).mono ?_
 rintro e w4 ⟨rfl, hS4⟩
 have S4 := Lib.hid hS4
 obtain ⟨hx2, hf2, hz2⟩ := (hS4.box (k := 2) rfl).facts
 clear hS4 h4 h5 h7
 go_wp2_with fail
 refine (split_at (c := j + k) S4.out (by rw [brk_length]) (by omega) (by rw [brk_length]; omega) (by omega)).mono ?_
 rintro e w5 ⟨rfl, hS5⟩
 have S5 := Lib.hid hS5
 have HW1 := Lib.hid (show IntKind.i64.wrap ((j : Int) + k) = ((j + k : Nat) : Int) by rw [IntWalk.i64_in _ (by omega)]; omega)
 have HW2 := Lib.hid (show IntKind.i64.wrap ((cols : Int) - k) = ((cols - k : Nat) : Int) by rw [IntWalk.i64_in _ (by omega)]; omega)
 clear hS5 hx2 hf2 hz2 hn0 hng hcmp
 go_upto_region 21 with (fail)
 refine wp_region_stage (w0 := w0) (os := os) (by kernel_rfl) (by kernel_rfl) (by kernel_rfl) [(0, 8, [], fun vs => .cells (.slice (some ⟨g, 0, none⟩) l.1.length c) ((brk (j + k) (brk j l.1)).take j ++ (((brk (j + k) (brk j l.1)).drop (j + k)).take (cols - (j + k)) ++ (brk (j + k) (brk j l.1)).drop (j + (cols - (j + k))))))] [[], [], [], [], [], [], [], [], [0]] [.cells (.slice (some ⟨g, 0, none⟩) l.1.length c) (brk (j + k) (brk j l.1)), .linesx (.slice (some ⟨gr, 0, none⟩) L.length cr) L i (.slice (some ⟨g, 0, none⟩) l.1.length c), .box p 58 #[.int .i64 ↑cols, .slice (some ⟨gr, 0, none⟩) L.length cr], .box b9 54 (pv q)] (fun i u => match i with | 0 => u = .slice (some ⟨g, 0, none⟩) l.1.length c | 1 => u = .int .i64 ↑j | 2 => u = .slice (tailA (some ⟨g, 0, none⟩) c j) (l.1.length - j) (c - j) | 3 => u = .slice (some ⟨g, 0, none⟩) l.1.length c | 4 => u = .int .i64 ↑j | 5 => u = .int .i64 ↑k | 6 => u = .int .i64 ↑(j + k) | 7 => u = .slice (tailA (some ⟨g, 0, none⟩) c (j + k)) (l.1.length - (j + k)) (c - (j + k)) | 8 => True | _ => True) (fun vs => [.cells (.slice (some ⟨g, 0, none⟩) l.1.length c) ((brk (j + k) (brk j l.1)).take j ++ (((brk (j + k) (brk j l.1)).drop (j + k)).take (cols - (j + k)) ++ (brk (j + k) (brk j l.1)).drop (j + (cols - (j + k))))), .linesx (.slice (some ⟨gr, 0, none⟩) L.length cr) L i (.slice (some ⟨g, 0, none⟩) l.1.length c), .box p 58 #[.int .i64 ↑cols, .slice (some ⟨gr, 0, none⟩) L.length cr], .box b9 54 (pv q)]) (by kernel_rfl) (fun vs => by rfl) S5.out ?_ ?_
 ·apply sc
  ·intro a w' vs σ hS hl hs hk
   have f12 : a.tmps[12]?.getD undef = .slice (some ⟨g, 0, none⟩) l.1.length c := sof hk
   exact rp (.slice (some ⟨g, 0, none⟩) l.1.length c) (by simp [execOp, Act.eval, f12, go_sem]) hl hs hS
  apply sc
  ·intro a w' vs σ hS hl hs hk
   have f2 : a.tmps[2]?.getD undef = .int .i64 ↑j := sof hk
   exact rp (.int .i64 ↑j) (by simp [execOp, Act.eval, f2, go_sem]) hl hs hS
  apply sc
  ·intro a w' vs σ hS hl hs hk
   have f96 : a.tmps[96]?.getD undef = .slice (some ⟨g, 0, none⟩) l.1.length c := sf hk 0
   have f97 : a.tmps[97]?.getD undef = .int .i64 ↑j := sf hk 1
   exact rs_run (wanted_none rfl) (exec_slice rfl (by simp [Act.eval, f96, f97]) (by simp [Act.eval, f96, f97]; try rfl) (by simp [Act.eval, f96, f97]; try rfl) (run_from w' (some ⟨g, 0, none⟩) l.1.length c j (by omega) (by omega) (fun h => by cases h) (by omega))) (sp_same (by kernel_rfl) hl hs hS (show (.slice (tailA (some ⟨g, 0, none⟩) c j) (l.1.length - j) (c - j) : Value) = _ from rfl))
  apply sc
  ·intro a w' vs σ hS hl hs hk
   have f12 : a.tmps[12]?.getD undef = .slice (some ⟨g, 0, none⟩) l.1.length c := sof hk
   exact rp (.slice (some ⟨g, 0, none⟩) l.1.length c) (by simp [execOp, Act.eval, f12, go_sem]) hl hs hS
  apply sc
  ·intro a w' vs σ hS hl hs hk
   have f2 : a.tmps[2]?.getD undef = .int .i64 ↑j := sof hk
   exact rp (.int .i64 ↑j) (by simp [execOp, Act.eval, f2, go_sem]) hl hs hS
  apply sc
  ·intro a w' vs σ hS hl hs hk
   have f15 : a.tmps[15]?.getD undef = .int .i64 ↑k := sof hk
   exact rp (.int .i64 ↑k) (by simp [execOp, Act.eval, f15, go_sem]) hl hs hS
  apply sc
  ·intro a w' vs σ hS hl hs hk
   have f100 : a.tmps[100]?.getD undef = .int .i64 ↑j := sf hk 4
   have f101 : a.tmps[101]?.getD undef = .int .i64 ↑k := sf hk 5
   exact rp (.int .i64 ↑(j + k)) (by simp [execOp, Act.eval, f100, f101, go_sem, HW1.out]) hl hs hS
  apply sc
  ·intro a w' vs σ hS hl hs hk
   have f99 : a.tmps[99]?.getD undef = .slice (some ⟨g, 0, none⟩) l.1.length c := sf hk 3
   have f102 : a.tmps[102]?.getD undef = .int .i64 ↑(j + k) := sf hk 6
   exact rs_run (wanted_none rfl) (exec_slice rfl (by simp [Act.eval, f99, f102]) (by simp [Act.eval, f99, f102]; try rfl) (by simp [Act.eval, f99, f102]; try rfl) (run_from w' (some ⟨g, 0, none⟩) l.1.length c (j + k) (by omega) (by omega) (fun h => by cases h) (by omega))) (sp_same (by kernel_rfl) hl hs hS (show (.slice (tailA (some ⟨g, 0, none⟩) c (j + k)) (l.1.length - (j + k)) (c - (j + k)) : Value) = _ from rfl))
  apply sc
  ·intro a w' vs σ hS hl hs hk
   have e98 : a.tmps.getD 98 undef = .slice (tailA (some ⟨g, 0, none⟩) c j) (l.1.length - j) (c - j) := sv hk 2
   have e103 : a.tmps.getD 103 undef = .slice (tailA (some ⟨g, 0, none⟩) c (j + k)) (l.1.length - (j + k)) (c - (j + k)) := sv hk 7
   have h0 : σ[0]? = some (.cells (.slice (some ⟨g, 0, none⟩) l.1.length c) (brk (j + k) (brk j l.1))) := hs 0 (by decide)
   obtain ⟨W, hr, hW⟩ := run_copyO hS (sg h0) (j) (j + k) (cols - (j + k)) (tailA (some ⟨g, 0, none⟩) c j) (tailA (some ⟨g, 0, none⟩) c (j + k)) (l.1.length - j) (c - j) (l.1.length - (j + k)) (c - (j + k)) (by show min (l.1.length - (j + k)) (l.1.length - j) = _; omega) (by rw [brk_length, brk_length]; omega) (by rw [brk_length, brk_length]; omega) (fun hp => ⟨tailA_at (by omega), tailA_at (by omega)⟩) 3
   exact rs_run (wanted_none rfl) (exec_copy rfl (by simp only [Act.eval]; exact e98) (by simp only [Act.eval]; exact e103) hr) (sp_set 0 _ (by kernel_rfl) (by simp) (by decide) hl hs (by rfl) hW trivial)
  exact SSteps.nil
 ·intro vs w' hS hv
  have q0 : vs 0 = _ := hv 0 (by decide)
  have q1 : vs 1 = _ := hv 1 (by decide)
  have q2 : vs 2 = _ := hv 2 (by decide)
  have q3 : vs 3 = _ := hv 3 (by decide)
  have q4 : vs 4 = _ := hv 4 (by decide)
  have q5 : vs 5 = _ := hv 5 (by decide)
  have q6 : vs 6 = _ := hv 6 (by decide)
  have q7 : vs 7 = _ := hv 7 (by decide)
  have S2 := Lib.hid hS
  simp only [putL, Act.put, Nat.zero_add, Nat.reduceAdd, List.setIfInBounds_toArray, List.set_cons_succ, List.set_cons_zero, q0, q1, q2, q3, q4, q5, q6, q7]
  clear hS hv q0 q1 q2 q3 q4 q5 q6 q7
  clear S5
  have S6 := S2
  clear S2
  have HCL := Lib.hid (show ((brk (j + k) (brk j l.1)).take j ++ (((brk (j + k) (brk j l.1)).drop (j + k)).take (cols - (j + k)) ++ (brk (j + k) (brk j l.1)).drop (j + (cols - (j + k))))).length = cols by simp only [List.length_append, List.length_take, List.length_drop, brk_length]; omega)
  go_upto_region 22 with (fail)
  refine wp_region_stage (w0 := w0) (os := os) (by kernel_rfl) (by kernel_rfl) (by kernel_rfl) [(0, 9, [], fun vs => .cells (.slice (some ⟨g, 0, none⟩) l.1.length c) (wipeC (cols - k) (l.1.length - (cols - k)) q ((brk (j + k) (brk j l.1)).take j ++ (((brk (j + k) (brk j l.1)).drop (j + k)).take (cols - (j + k)) ++ (brk (j + k) (brk j l.1)).drop (j + (cols - (j + k)))))))] [[], [], [], [], [2], [], [], [], [3], [0]] [.cells (.slice (some ⟨g, 0, none⟩) l.1.length c) ((brk (j + k) (brk j l.1)).take j ++ (((brk (j + k) (brk j l.1)).drop (j + k)).take (cols - (j + k)) ++ (brk (j + k) (brk j l.1)).drop (j + (cols - (j + k))))), .linesx (.slice (some ⟨gr, 0, none⟩) L.length cr) L i (.slice (some ⟨g, 0, none⟩) l.1.length c), .box p 58 #[.int .i64 ↑cols, .slice (some ⟨gr, 0, none⟩) L.length cr], .box b9 54 (pv q)] (fun i u => match i with | 0 => u = .slice (some ⟨g, 0, none⟩) l.1.length c | 1 => u = pt p 0 | 2 => u = pt p 0 | 3 => u = pt p 0 | 4 => u = .int .i64 ↑cols | 5 => u = .int .i64 ↑k | 6 => u = .int .i64 ↑(cols - k) | 7 => u = .slice (tailA (some ⟨g, 0, none⟩) c (cols - k)) (l.1.length - (cols - k)) (c - (cols - k)) | 8 => u = .agg (pv q) | 9 => u = .tuple #[] | _ => True) (fun vs => [.cells (.slice (some ⟨g, 0, none⟩) l.1.length c) (wipeC (cols - k) (l.1.length - (cols - k)) q ((brk (j + k) (brk j l.1)).take j ++ (((brk (j + k) (brk j l.1)).drop (j + k)).take (cols - (j + k)) ++ (brk (j + k) (brk j l.1)).drop (j + (cols - (j + k)))))), .linesx (.slice (some ⟨gr, 0, none⟩) L.length cr) L i (.slice (some ⟨g, 0, none⟩) l.1.length c), .box p 58 #[.int .i64 ↑cols, .slice (some ⟨gr, 0, none⟩) L.length cr], .box b9 54 (pv q)]) (by kernel_rfl) (fun vs => by rfl) S6.out ?_ ?_
  ·apply sc
   ·intro a w' vs σ hS hl hs hk
    have f12 : a.tmps[12]?.getD undef = .slice (some ⟨g, 0, none⟩) l.1.length c := sof hk
    exact rp (.slice (some ⟨g, 0, none⟩) l.1.length c) (by simp [execOp, Act.eval, f12, go_sem]) hl hs hS
   apply sc
   ·intro a w' vs σ hS hl hs hk
    have f0 : a.tmps[0]?.getD undef = .pointer (some ⟨p, 0, none⟩) := sof hk
    exact rp (pt p 0) (by simp [execOp, Act.eval, f0, go_sem]) hl hs hS
   apply sc
   ·intro a w' vs σ hS hl hs hk
    have f106 : a.tmps[106]?.getD undef = .pointer (some ⟨p, 0, none⟩) := sf hk 1
    exact rp (pt p 0) (by simp [execOp, Act.eval, f106, go_sem]) hl hs hS
   apply sc
   ·intro a w' vs σ hS hl hs hk
    have f107 : a.tmps[107]?.getD undef = .pointer (some ⟨p, 0, none⟩) := sf hk 2
    exact rp (pt p 0) (by simp [execOp, Act.eval, f107, go_sem]) hl hs hS
   apply sc
   ·intro a w' vs σ hS hl hs hk
    have f108 : a.tmps[108]?.getD undef = .pointer (some ⟨p, 0, none⟩) := sf hk 3
    have hx := (hS.box (sg (hs 2 (by decide)))).cell
    exact rp (.int .i64 ↑cols) (by simp [execOp, Act.eval, f108, go_sem, hx]) hl hs hS
   apply sc
   ·intro a w' vs σ hS hl hs hk
    have f15 : a.tmps[15]?.getD undef = .int .i64 ↑k := sof hk
    exact rp (.int .i64 ↑k) (by simp [execOp, Act.eval, f15, go_sem]) hl hs hS
   apply sc
   ·intro a w' vs σ hS hl hs hk
    have f109 : a.tmps[109]?.getD undef = .int .i64 ↑cols := sf hk 4
    have f110 : a.tmps[110]?.getD undef = .int .i64 ↑k := sf hk 5
    exact rp (.int .i64 ↑(cols - k)) (by simp [execOp, Act.eval, f109, f110, go_sem, HW2.out]) hl hs hS
   apply sc
   ·intro a w' vs σ hS hl hs hk
    have f105 : a.tmps[105]?.getD undef = .slice (some ⟨g, 0, none⟩) l.1.length c := sf hk 0
    have f111 : a.tmps[111]?.getD undef = .int .i64 ↑(cols - k) := sf hk 6
    exact rs_run (wanted_none rfl) (exec_slice rfl (by simp [Act.eval, f105, f111]) (by simp [Act.eval, f105, f111]; try rfl) (by simp [Act.eval, f105, f111]; try rfl) (run_from w' (some ⟨g, 0, none⟩) l.1.length c (cols - k) (by omega) (by omega) (fun h => by cases h) (by omega))) (sp_same (by kernel_rfl) hl hs hS (show (.slice (tailA (some ⟨g, 0, none⟩) c (cols - k)) (l.1.length - (cols - k)) (c - (cols - k)) : Value) = _ from rfl))
   apply sc
   ·intro a w' vs σ hS hl hs hk
    have f9 : a.tmps[9]?.getD undef = .pointer (some ⟨b9, 0, none⟩) := sof hk
    have hx := (hS.box (sg (hs 3 (by decide)))).penAt
    exact rp (.agg (pv q)) (by simp [execOp, Act.eval, f9, go_sem, hx]) hl hs hS
   apply sc
   ·intro a w' vs σ hS hl hs hk
    have e112 : a.tmps.getD 112 undef = .slice (tailA (some ⟨g, 0, none⟩) c (cols - k)) (l.1.length - (cols - k)) (c - (cols - k)) := sv hk 7
    have e113 : a.tmps.getD 113 undef = .agg (pv q) := sv hk 8
    have h0 : σ[0]? = some (.cells (.slice (some ⟨g, 0, none⟩) l.1.length c) ((brk (j + k) (brk j l.1)).take j ++ (((brk (j + k) (brk j l.1)).drop (j + k)).take (cols - (j + k)) ++ (brk (j + k) (brk j l.1)).drop (j + (cols - (j + k)))))) := hs 0 (by decide)
    rw [tailA_at (by omega)] at e112
    exact ro_call (f := 89) (wanted_none rfl) rfl (by simp only [List.map_toArray, List.map_cons, List.map_nil, Act.eval, e112, e113] <;> rfl) (fun _ _ => by kernel_rfl) ((front_call hS (sg h0) (fun os1 h => wipe_front g l.1.length c (cols - k) (l.1.length - (cols - k)) (c - (cols - k)) ((brk (j + k) (brk j l.1)).take j ++ (((brk (j + k) (brk j l.1)).drop (j + k)).take (cols - (j + k)) ++ (brk (j + k) (brk j l.1)).drop (j + (cols - (j + k))))) q w0 w' os1 h (by have := HCL.out; omega) (by omega) (by have := HCL.out; omega))).mono fun e w2 ⟨h1, h2⟩ => ⟨_, h1, sp_set 0 _ (by kernel_rfl) (by simp) (by decide) hl hs (by rfl) h2 rfl, trivial⟩)
   exact SSteps.nil
  ·intro vs w' hS hv
   have q0 : vs 0 = _ := hv 0 (by decide)
   have q1 : vs 1 = _ := hv 1 (by decide)
   have q2 : vs 2 = _ := hv 2 (by decide)
   have q3 : vs 3 = _ := hv 3 (by decide)
   have q4 : vs 4 = _ := hv 4 (by decide)
   have q5 : vs 5 = _ := hv 5 (by decide)
   have q6 : vs 6 = _ := hv 6 (by decide)
   have q7 : vs 7 = _ := hv 7 (by decide)
   have q8 : vs 8 = _ := hv 8 (by decide)
   have q9 : vs 9 = _ := hv 9 (by decide)
   have S2 := Lib.hid hS
   simp only [putL, Act.put, Nat.zero_add, Nat.reduceAdd, List.setIfInBounds_toArray, List.set_cons_succ, List.set_cons_zero, q0, q1, q2, q3, q4, q5, q6, q7, q8, q9]
   clear hS hv q0 q1 q2 q3 q4 q5 q6 q7 q8 q9
   have HF := (show Objs w0 w' (_ :: _ :: _ :: _ :: os) from S2.out).closeAt HL.out
   rw [HP.out] at HF
   go_wp2_with fail
   go_ret
   exact ⟨rfl, HF.drop2⟩
end
end Go.Proofs.YtppijfjigcoifaaDoor

namespace Go.Proofs.YtppijfjigcoifaaDoor
open Go.RowKit

theorem brk_take {j m : Nat} {cs : List Cell} (h : j < m) : (brk m cs).take j = cs.take j := by
 cases m with
 | zero => rfl
 | succ m =>
  rw [brk_succ]
  split
  ·rw [List.take_set_of_le (by omega), List.take_set_of_le (by omega)]
  ·rfl
theorem brk_idem (m : Nat) (cs : List Cell) : brk m (brk m cs) = brk m cs := by
 cases m with
 | zero => rfl
 | succ m =>
  by_cases h : m + 1 < cs.length ∧ (cAt cs m).width = 2
  ·have e : brk (m + 1) cs = (cs.set m (blank (cAt cs m).pen)).set (m + 1) (blank (cAt cs (m + 1)).pen) := by rw [brk_succ, if_pos h]
   have e2 : (cAt (brk (m + 1) cs) m).width = 1 := by
    rw [e]
    have : m < cs.length := by omega
    simp [cAt, List.getElem?_set_ne, List.getElem?_set_self, this, blank]
   rw [brk_succ m (brk (m + 1) cs), if_neg (by rw [e2]; simp)]
  ·have e : brk (m + 1) cs = cs := by rw [brk_succ, if_neg h]
   rw [e, e]
theorem brk_take2 {j m : Nat} {cs : List Cell} (h : j ≤ m) : (brk m (brk j cs)).take j = (brk j cs).take j := by
 rcases Nat.lt_or_ge j m with h' | h'
 ·exact brk_take h'
 ·obtain rfl : j = m := by omega
  rw [brk_idem]
theorem run_appN {w0 w : World} {os : List Ob} {v : Value} {cs ds : List Cell} {k n : Nat} (hS : Objs w0 w os) (hk : os[k]? = some (.cells v cs)) {A : Option Addr} {c : Nat} (hr : RdC w A c ds) (hn : n = ds.length) (hlen : cs.length + ds.length ≤ 1000000) (ty : TypeId) :
  ∃ v' w', (Builtin.append_ #[37, 37] ty #[v, .slice A n c]).run Tryd.prog w = .ok v' w' ∧ Objs w0 w' (os.set k (.cells v' (cs ++ ds))) ∧ ∃ A' n' c', v' = .slice A' n' c' := by
 subst hn
 obtain ⟨v', w', h1, h2, A', c', h3⟩ := run_appO hS hk hr hlen ty
 exact ⟨v', w', h1, h2, A', _, c', h3⟩
theorem break_k {A : Option Addr} {n0 cap c k : Nat} {cs : List Cell} {n : Int} {w0 w : World} {os : List Ob} (hS : Objs w0 w os) (hk : os[k]? = some (.cells (.slice A n0 cap) cs)) (hn0 : n0 = cs.length) (hn : n = (c : Int)) (hlen : cs.length ≤ 1000000) (hc : c ≤ 2000000) :
  Calls Tryd.prog 75 #[.slice A n0 cap, .int .i64 n] w fun e w' => e = .returned (.tuple #[]) ∧ Objs w0 w' (os.set k (.cells (.slice A n0 cap) (brk c cs))) :=
 front_call hS hk (fun os1 h => break_at h hn0 hn hlen hc)
@[go_sem] theorem run_fieldL (A : Option Addr) (n c : Nat) (b : Bool) (w : World) : (Instr.field 39 (.agg #[.slice A n c, .bool b]) 0).run Tryd.prog w = .ok (.slice A n c) w := by kernel_rfl
section
variable {w0 w : World} {os : List Ob} {p cols : Nat} {L : List Ln}
set_option maxRecDepth 100000 in
set_option maxHeartbeats 4000000 in
theorem r14Clear_yes {i f t : Nat} {l : Ln} (q : Pen) (hS : Objs w0 w (.grid p 33 cols L :: os)) (hc : 0 < cols) (hcm : cols ≤ 1000) (hl : L[i]? = some l) (hrow : l.1.length = cols) (hft : f < t) (ht : t ≤ cols) :
  Calls Tryd.prog 81 #[.pointer (some ⟨p, 0, none⟩), .int .i64 i, .int .i64 f, .int .i64 t, .agg (pv q)] w fun e w' => e = .returned (.tuple #[]) ∧ Objs w0 w' (.grid p 33 cols (L.set i (clearC f t q l.1, l.2)) :: os) := by
 have S := Lib.hid hS
 have hi : i < L.length := (List.getElem?_eq_some_iff.1 hl).1
 have HL := Lib.hid hl
 have HROW := Lib.hid hrow
 have hlr : l.1.length ≤ 1000 := by omega
 have hlr2 : cols ≤ l.1.length := by omega
 have hlr3 : l.1.length ≤ cols := by omega
 have HP := Lib.hid (show clearC f t q l.1 = wipeC f (t - f) q (brk t (brk f l.1)) from if_pos hft)
 clear hS hl hrow
 have S2 := Lib.hid (S.out.alloc1 (c1 := pv q) (t1 := 54))
 clear S
 go_enter Tryd.func81, Tryd.ntmps81
 obtain ⟨v, b, hS3⟩ := S2.out.swap.openAt HL.out
 obtain ⟨A, c, rfl, hrd⟩ := hS3.cellsRd (k := 0) rfl
 have hnc : l.1.length ≤ c := hrd.1
 obtain ⟨g, rfl, -, -, -, -⟩ := (hS3.own (k := 0) rfl).head (by omega)
 obtain ⟨gr, cr, rfl, h1, h2, h3, h4, h5, h6, h7⟩ := hS3.linesxRd (k := 1) rfl
 obtain ⟨hx2, hf2, hz2⟩ := (hS3.box (k := 2) rfl).facts
 have hlen2 : L.length ≤ 9223372036854775807 := by unfold maxLen at h2; omega
 have S3 := Lib.hid hS3
 clear hS3 h1 h2 h6 hrd
 go_wp2_with fail
 refine (break_at (c := f) S3.out rfl rfl (by omega) (by omega)).mono ?_
 rintro e w4 ⟨rfl, hS4⟩
 have S4 := Lib.hid hS4
 clear hS4 hx2 hf2 hz2 h4 h5 h7
 go_wp2_with fail
 refine (break_at (c := t) S4.out (by rw [brk_length]) rfl (by rw [brk_length]; omega) (by omega)).mono ?_
 rintro e w5 ⟨rfl, hS5⟩
 have S5 := Lib.hid hS5
 clear hS5
 generalize w.heap.size = b9 at S5 ⊢
 go_wp2_with fail
 go_loopw [11] (fun x wr => ∃ k : Nat, f + k ≤ t ∧ x = .int .i64 ((f + k : Nat) : Int) ∧ Objs w0 wr (.cells (.slice (some ⟨g, 0, none⟩) l.1.length c) (wipeC f k q (brk t (brk f l.1))) :: .linesx (.slice (some ⟨gr, 0, none⟩) L.length cr) L i (.slice (some ⟨g, 0, none⟩) l.1.length c) :: .box p 33 #[.int .i64 ↑cols, .slice (some ⟨gr, 0, none⟩) L.length cr] :: .box b9 54 (pv q) :: os)) (fun x _ => t - (intOf x).toNat)
 case atStart => exact ⟨0, by omega, rfl, by rw [wipeC_zero]; exact S5.out⟩
 case round =>
  obtain ⟨k, hk, rfl, hS⟩ := hrel
  have S6 := Lib.hid hS
  clear hS
  by_cases hlt : f + k < t
  ·obtain ⟨hx3, hf3, hz3, hp3⟩ := (S6.out.box (k := 3) rfl).pbox
   go_wp2_with fail
   refine (pure_call (r14Blank_any _ _) S6.out).mono ?_
   rintro e w7 ⟨rfl, hS7⟩
   obtain ⟨W, hst, ho, hg⟩ := (hS7.own (k := 0) rfl).putAt (k := f + k) (by rw [wipeC_length (by rw [brk_length, brk_length]; omega), brk_length, brk_length]; omega) (blank q)
   rw [wipeC_succ (by rw [brk_length, brk_length]; omega)] at ho
   have S8 := Lib.hid (hS7.cellsUpd (k := 0) rfl ho hg)
   clear hS7 ho hg hx3 hf3 hz3 hp3
   go_wp2_with fail
   go_roundw
   case rel => exact ⟨k + 1, by omega, by go_num, S8.out⟩
   case measure => simp [intOf]; omega
  ·have hkt : k = t - f := by omega
   have HK := Lib.hid hkt
   clear hkt
   have HF := S6.out.closeAt HL.out
   rw [HK.out, ← HP.out] at HF
   go_wp2_with fail
   go_end0
   exact ⟨rfl, HF.drop2⟩
set_option maxRecDepth 100000 in
set_option maxHeartbeats 4000000 in
theorem r14Clear_none {i f t : Nat} {l : Ln} (q : Pen) (hS : Objs w0 w (.grid p 33 cols L :: os)) (hc : 0 < cols) (hcm : cols ≤ 1000) (hl : L[i]? = some l) (hrow : l.1.length = cols) (hft : t ≤ f) :
  Calls Tryd.prog 81 #[.pointer (some ⟨p, 0, none⟩), .int .i64 i, .int .i64 f, .int .i64 t, .agg (pv q)] w fun e w' => e = .returned (.tuple #[]) ∧ Objs w0 w' (.grid p 33 cols L :: os) := by
 have S := Lib.hid hS
 have hi : i < L.length := (List.getElem?_eq_some_iff.1 hl).1
 have HL := Lib.hid hl
 have HROW := Lib.hid hrow
 have hlr : l.1.length ≤ 1000 := by omega
 have hlr2 : cols ≤ l.1.length := by omega
 have hlr3 : l.1.length ≤ cols := by omega
 clear hS hl hrow
 have S2 := Lib.hid (S.out.alloc1 (c1 := pv q) (t1 := 54))
 clear S
 obtain ⟨A, c, hB, hm, hr⟩ := S2.out.gridRd (k := 1) rfl
 have hlen : L.length ≤ 9223372036854775807 := by have := hr.1; unfold maxLen at hm; omega
 obtain ⟨hx0, hf0, hz0⟩ := hB.facts
 obtain ⟨b, off, A', c', rfl, hz1, hc1, hc2, hrd⟩ := hr.at_ HL.out
 clear hB hm hr hrd
 go_enter Tryd.func81, Tryd.ntmps81
 go_wp2_with fail
 refine bodyPost_ret (results_none rfl _ _ _) rfl ?_
 exact ⟨rfl, S2.out.tail⟩
set_option maxRecDepth 100000 in
set_option maxHeartbeats 4000000 in
theorem r14Shift_right {i j k : Nat} {l : Ln} (q : Pen) (hS : Objs w0 w (.grid p 33 cols L :: os)) (hc : 0 < cols) (hcm : cols ≤ 1000) (hl : L[i]? = some l) (hrow : l.1.length = cols) (n : Int) (hj : j < cols) (hn : 0 < n) (hn2 : n ≤ 9223372036854775807) (hk : (k : Int) = min n ((cols - j : Nat) : Int)) :
  Calls Tryd.prog 82 #[.pointer (some ⟨p, 0, none⟩), .int .i64 i, .int .i64 j, .int .i64 n, .agg (pv q)] w fun e w' => e = .returned (.tuple #[]) ∧ Objs w0 w' (.grid p 33 cols (L.set i (shiftR j k q l.1, l.2)) :: os) := by
 have S := Lib.hid hS
 have hi : i < L.length := (List.getElem?_eq_some_iff.1 hl).1
 have HL := Lib.hid hl
 have HROW := Lib.hid hrow
 have hlr : l.1.length ≤ 1000 := by omega
 have hlr2 : cols ≤ l.1.length := by omega
 have hlr3 : l.1.length ≤ cols := by omega
 have hkj : j + k ≤ cols := by omega
 have hk1 : 1 ≤ k := by omega
 have hn0 : (n == 0) = false := by simp; omega
 have hmin : min n ((cols : Int) - j) = (k : Int) := by omega
 have HP := Lib.hid (show (brk j l.1).take j ++ List.replicate k (blank q) ++ ((brk (cols - k) (brk j l.1)).drop j).take (cols - k - j) = shiftR j k q l.1 by
  unfold shiftR
  rw [hrow]
  have e : ((brk (cols - k) (brk j l.1)).take j) = (brk j l.1).take j := brk_take2 (by omega)
  simp only [e, List.append_assoc])
 clear hk
 clear hS hl hrow
 have S2 := Lib.hid (S.out.alloc1 (c1 := pv q) (t1 := 54))
 clear S
 go_enter Tryd.func82, Tryd.ntmps82
 obtain ⟨v, b, hS3⟩ := S2.out.swap.openAt HL.out
 obtain ⟨A, c, rfl, hrd⟩ := hS3.cellsRd (k := 0) rfl
 have hnc : l.1.length ≤ c := hrd.1
 obtain ⟨g, rfl, -, -, -, -⟩ := (hS3.own (k := 0) rfl).head (by omega)
 obtain ⟨gr, cr, rfl, h1, h2, h3, h4, h5, h6, h7⟩ := hS3.linesxRd (k := 1) rfl
 obtain ⟨hx2, hf2, hz2⟩ := (hS3.box (k := 2) rfl).facts
 have hlen2 : L.length ≤ 9223372036854775807 := by unfold maxLen at h2; omega
 have S3 := Lib.hid hS3
 clear hS3 h1 h2 h6 hrd
 go_wp2_with fail
 refine (break_at (c := j) S3.out rfl rfl (by omega) (by omega)).mono ?_
 rintro e w4 ⟨rfl, hS4⟩
 have hru := run_upto w4 (some ⟨g, 0, none⟩) l.1.length c j (by omega) (by omega) (fun h => by cases h) (by omega)
 have hlj : j = ((brk j l.1).take j).length := by rw [List.length_take, brk_length]; omega
 obtain ⟨v5, w5, hr5, hS5, A5, n5, c5, rfl⟩ := run_appN hS4.nilCells (k := 0) rfl ((hS4.cellsRd' (k := 0) rfl).2.upto j) hlj (by simp; omega) 37
 rw [List.nil_append] at hS5
 obtain ⟨hx5, hf5, hz5⟩ := (hS5.box (k := 3) rfl).facts
 have S5 := Lib.hid hS5
 clear hS4 hS5 hlj hx2 hf2 hz2 h4 h5 h7
 generalize w.heap.size = b9 at S5 ⊢
 go_wp2_with (at_builtin; refine wpList_app _ _ (wanted_none rfl) rfl rfl rfl hr5 ?_)
 refine (break_k S5.out (k := 1) (n := (cols : Int) - k) (c := cols - k) rfl (by rw [brk_length]) (by omega) (by rw [brk_length]; omega) (by omega)).mono ?_
 rintro e w6 ⟨rfl, hS6⟩
 have S6 := Lib.hid hS6
 obtain ⟨hx9, hf9, hz9, hp9⟩ := (hS6.box (k := 4) rfl).pbox
 clear hS6 hru hr5 hx5 hf5 hz5 hmin
 go_wp2_with fail
 refine (r14Blanks_any k (by omega) q w0 _ _ S6.out).mono ?_
 rintro e w7 ⟨vb, rfl, hS7⟩
 obtain ⟨Ab, cb, hvb, hrb⟩ := hS7.cellsRd (k := 0) rfl
 rw [List.length_replicate] at hvb
 subst hvb
 obtain ⟨v8, w8, hr8, hS8, A8, n8, c8, rfl⟩ := run_appN hS7 (k := 1) rfl hrb (List.length_replicate ..).symm (by simp only [List.length_append, List.length_take, List.length_drop, List.length_replicate, brk_length]; omega) 37
 go_upto_region 10 with (at_builtin; refine wpList_app _ _ (wanted_none rfl) rfl rfl rfl hr8 ?_)
 clear hr8 hx9 hf9 hz9 hp9
 obtain ⟨hx8, hf8, hz8⟩ := (hS8.box (k := 4) rfl).facts
 have hrm : (Instr.slice 37 (.slice (some ⟨g, 0, none⟩) l.1.length c) (some (.int .i64 j)) (some (.int .i64 ((cols : Int) - k))) none).run Tryd.prog w8 = .ok (.slice (some ⟨g, j * 16, none⟩) (cols - k - j) (c - j)) w8 := by
  rw [show (cols : Int) - k = ((cols - k : Nat) : Int) by omega]
  exact run_mid w8 g l.1.length c j (cols - k) (by omega) (by omega) (by omega) (by omega) (by omega)
 have hrd9 := ((hS8.cellsRd' (k := 2) rfl).2.from j (by rw [brk_length, brk_length]; omega)).upto (cols - k - j)
 rw [tailA_at (by omega)] at hrd9
 have hl9 : cols - k - j = (((brk (cols - k) (brk j l.1)).drop j).take (cols - k - j)).length := by rw [List.length_take, List.length_drop, brk_length, brk_length]; omega
 obtain ⟨v9, w9, hr9, hS9, A9, n9, c9, rfl⟩ := run_appN hS8 (k := 1) rfl hrd9 hl9 (by simp [brk_length]; omega) 37
 obtain ⟨hx10, hf10, hz10⟩ := (hS9.box (k := 4) rfl).facts
 obtain ⟨gr2, cr2, e2, -, -, -, hz11, hx11, -, hf11⟩ := hS9.linesxRd (k := 3) rfl
 cases e2
 have S9 := Lib.hid hS9
 clear hS7 hrb hS8 hrd9 hl9 hS9 S5 S6 S3
 go_upto_region 17 with (at_builtin; refine wpList_app _ _ (wanted_none rfl) rfl rfl rfl hr9 ?_)
 clear hr9 hrm
 have hs := (show (L[i]?).map (·.2) = some l.2 by rw [HL.out]; rfl)
 have HF := (((((((((S9.out.storeRow (k := 3) (j := 1) rfl rfl (by decide) hs).lift (k := 3) rfl).closeGrid (k := 4) rfl).lift (k := 4) rfl).del 1).del 1).del 1).del 1).del 1).del 1
 clear hs
 rw [HP.out] at HF
 go_wp2_with fail
 go_end0
 exact ⟨rfl, HF⟩
set_option maxRecDepth 100000 in
set_option maxHeartbeats 4000000 in
theorem r14Shift_left1 {i j k : Nat} {l : Ln} (q : Pen) (hS : Objs w0 w (.grid p 33 cols L :: os)) (hc : 0 < cols) (hcm : cols ≤ 1000) (hl : L[i]? = some l) (hrow : l.1.length = cols) (hj : j < cols) (hk1 : 1 ≤ k) (hk2 : j + k < cols) :
  Calls Tryd.prog 82 #[.pointer (some ⟨p, 0, none⟩), .int .i64 i, .int .i64 j, .int .i64 (-(k : Int)), .agg (pv q)] w fun e w' => e = .returned (.tuple #[]) ∧ Objs w0 w' (.grid p 33 cols (L.set i (shiftL j k q l.1, l.2)) :: os) := by
 have S := Lib.hid hS
 have hi : i < L.length := (List.getElem?_eq_some_iff.1 hl).1
 have HL := Lib.hid hl
 have HROW := Lib.hid hrow
 have hlr : l.1.length ≤ 1000 := by omega
 have hlr2 : cols ≤ l.1.length := by omega
 have hlr3 : l.1.length ≤ cols := by omega
 have hkj : j + k ≤ cols := by omega
 have hk1 : 1 ≤ k := by omega
 have hn0 : ((-(k : Int)) == 0) = false := by simp; omega
 have hng : ¬ (0 < -(k : Int)) := by omega
 have hcmp : -((cols : Int) - j) < -(k : Int) := by omega
 have HP := Lib.hid (show (brk j l.1).take j ++ (brk (j + k) (brk j l.1)).drop (j + k) ++ List.replicate k (blank q) = shiftL j k q l.1 by
  unfold shiftL
  have e : ((brk (j + k) (brk j l.1)).take j) = (brk j l.1).take j := brk_take2 (by omega)
  simp only [e, List.append_assoc])
 clear hS hl hrow
 have S2 := Lib.hid (S.out.alloc1 (c1 := pv q) (t1 := 54))
 clear S
 go_enter Tryd.func82, Tryd.ntmps82
 obtain ⟨v, b, hS3⟩ := S2.out.swap.openAt HL.out
 obtain ⟨A, c, rfl, hrd⟩ := hS3.cellsRd (k := 0) rfl
 have hnc : l.1.length ≤ c := hrd.1
 obtain ⟨g, rfl, -, -, -, -⟩ := (hS3.own (k := 0) rfl).head (by omega)
 obtain ⟨gr, cr, rfl, h1, h2, h3, h4, h5, h6, h7⟩ := hS3.linesxRd (k := 1) rfl
 obtain ⟨hx2, hf2, hz2⟩ := (hS3.box (k := 2) rfl).facts
 have hlen2 : L.length ≤ 9223372036854775807 := by unfold maxLen at h2; omega
 have S3 := Lib.hid hS3
 clear hS3 h1 h2 h6 hrd
 go_wp2_with fail
 refine (break_at (c := j) S3.out rfl rfl (by omega) (by omega)).mono ?_
 rintro e w4 ⟨rfl, hS4⟩
 have hru := run_upto w4 (some ⟨g, 0, none⟩) l.1.length c j (by omega) (by omega) (fun h => by cases h) (by omega)
 have hlj : j = ((brk j l.1).take j).length := by rw [List.length_take, brk_length]; omega
 obtain ⟨v5, w5, hr5, hS5, A5, n5, c5, rfl⟩ := run_appN hS4.nilCells (k := 0) rfl ((hS4.cellsRd' (k := 0) rfl).2.upto j) hlj (by simp; omega) 37
 rw [List.nil_append] at hS5
 obtain ⟨hx5, hf5, hz5⟩ := (hS5.box (k := 3) rfl).facts
 have S5 := Lib.hid hS5
 clear hS4 hS5 hlj hx2 hf2 hz2 h4 h5 h7
 generalize w.heap.size = b9 at S5 ⊢
 go_wp2_with (at_builtin; refine wpList_app _ _ (wanted_none rfl) rfl rfl rfl hr5 ?_)
 refine (break_k S5.out (k := 1) (c := j + k) rfl (by rw [brk_length]) (by omega) (by rw [brk_length]; omega) (by omega)).mono ?_
 rintro e w6 ⟨rfl, hS6⟩
 have hrm : (Instr.slice 37 (.slice (some ⟨g, 0, none⟩) l.1.length c) (some (.int .i64 ((j : Int) + k))) none none).run Tryd.prog w6 = .ok (.slice (tailA (some ⟨g, 0, none⟩) c (j + k)) (l.1.length - (j + k)) (c - (j + k))) w6 := by
  rw [show (j : Int) + k = ((j + k : Nat) : Int) by omega]
  exact run_from w6 (some ⟨g, 0, none⟩) l.1.length c (j + k) (by omega) (by omega) (fun h => by cases h) (by omega)
 have hl9 : l.1.length - (j + k) = ((brk (j + k) (brk j l.1)).drop (j + k)).length := by rw [List.length_drop, brk_length, brk_length]
 obtain ⟨v9, w9, hr9, hS9, A9, n9, c9, rfl⟩ := run_appN hS6 (k := 0) rfl ((hS6.cellsRd' (k := 1) rfl).2.from (j + k) (by rw [brk_length, brk_length]; omega)) hl9 (by simp [brk_length]; omega) 37
 have S6 := Lib.hid hS9
 obtain ⟨hx9, hf9, hz9, hp9⟩ := (hS9.box (k := 4) rfl).pbox
 clear hS6 hS9 hl9 hru hr5 hx5 hf5 hz5 hcmp hng hn0
 go_upto_region 16 with (at_builtin; refine wpList_app _ _ (wanted_none rfl) rfl rfl rfl hr9 ?_)
 clear hr9 hrm
 go_wp2_with fail
 refine (r14Blanks_any k (by omega) q w0 _ _ S6.out).mono ?_
 rintro e w7 ⟨vb, rfl, hS7⟩
 obtain ⟨Ab, cb, hvb, hrb⟩ := hS7.cellsRd (k := 0) rfl
 rw [List.length_replicate] at hvb
 subst hvb
 obtain ⟨v8, w8, hr8, hS8, A8, n8, c8, rfl⟩ := run_appN hS7 (k := 1) rfl hrb (List.length_replicate ..).symm (by simp only [List.length_append, List.length_take, List.length_drop, List.length_replicate, brk_length]; omega) 37
 go_upto_region 17 with (at_builtin; refine wpList_app _ _ (wanted_none rfl) rfl rfl rfl hr8 ?_)
 clear hr8 hx9 hf9 hz9 hp9
 obtain ⟨hx10, hf10, hz10⟩ := (hS8.box (k := 4) rfl).facts
 obtain ⟨gr2, cr2, e2, -, -, -, hz11, hx11, -, hf11⟩ := hS8.linesxRd (k := 3) rfl
 cases e2
 have S9 := Lib.hid hS8
 clear hS7 hrb hS8 S5 S6 S3
 have hs := (show (L[i]?).map (·.2) = some l.2 by rw [HL.out]; rfl)
 have HF := (((((((((S9.out.storeRow (k := 3) (j := 1) rfl rfl (by decide) hs).lift (k := 3) rfl).closeGrid (k := 4) rfl).lift (k := 4) rfl).del 1).del 1).del 1).del 1).del 1).del 1
 clear hs
 rw [HP.out] at HF
 go_wp2_with fail
 go_end0
 exact ⟨rfl, HF⟩
set_option maxRecDepth 100000 in
set_option maxHeartbeats 4000000 in
theorem r14Shift_left2 {i j k : Nat} {l : Ln} (q : Pen) (hS : Objs w0 w (.grid p 33 cols L :: os)) (hc : 0 < cols) (hcm : cols ≤ 1000) (hl : L[i]? = some l) (hrow : l.1.length = cols) (n : Int) (hj : j < cols) (hk3 : j + k = cols) (hn : n ≤ -(k : Int)) (hn2 : -9223372036854775808 ≤ n) :
  Calls Tryd.prog 82 #[.pointer (some ⟨p, 0, none⟩), .int .i64 i, .int .i64 j, .int .i64 n, .agg (pv q)] w fun e w' => e = .returned (.tuple #[]) ∧ Objs w0 w' (.grid p 33 cols (L.set i (shiftL j k q l.1, l.2)) :: os) := by
 have S := Lib.hid hS
 have hi : i < L.length := (List.getElem?_eq_some_iff.1 hl).1
 have HL := Lib.hid hl
 have HROW := Lib.hid hrow
 have hlr : l.1.length ≤ 1000 := by omega
 have hlr2 : cols ≤ l.1.length := by omega
 have hlr3 : l.1.length ≤ cols := by omega
 have hkj : j + k ≤ cols := by omega
 have hk1 : 1 ≤ k := by omega
 have hn0 : (n == 0) = false := by simp; omega
 have hng : ¬ (0 < n) := by omega
 have hcmp : ¬ (-((cols : Int) - j) < n) := by omega
 have hck : (cols : Int) - j = k := by omega
 have hk4 : cols ≤ j + k := by omega
 clear hk3
 have HP := Lib.hid (show (brk j l.1).take j ++ (brk (j + k) (brk j l.1)).drop (j + k) ++ List.replicate k (blank q) = shiftL j k q l.1 by
  unfold shiftL
  have e : ((brk (j + k) (brk j l.1)).take j) = (brk j l.1).take j := brk_take2 (by omega)
  simp only [e, List.append_assoc])
 clear hS hl hrow
 have S2 := Lib.hid (S.out.alloc1 (c1 := pv q) (t1 := 54))
 clear S
 go_enter Tryd.func82, Tryd.ntmps82
 obtain ⟨v, b, hS3⟩ := S2.out.swap.openAt HL.out
 obtain ⟨A, c, rfl, hrd⟩ := hS3.cellsRd (k := 0) rfl
 have hnc : l.1.length ≤ c := hrd.1
 obtain ⟨g, rfl, -, -, -, -⟩ := (hS3.own (k := 0) rfl).head (by omega)
 obtain ⟨gr, cr, rfl, h1, h2, h3, h4, h5, h6, h7⟩ := hS3.linesxRd (k := 1) rfl
 obtain ⟨hx2, hf2, hz2⟩ := (hS3.box (k := 2) rfl).facts
 have hlen2 : L.length ≤ 9223372036854775807 := by unfold maxLen at h2; omega
 have S3 := Lib.hid hS3
 clear hS3 h1 h2 h6 hrd
 go_wp2_with fail
 refine (break_at (c := j) S3.out rfl rfl (by omega) (by omega)).mono ?_
 rintro e w4 ⟨rfl, hS4⟩
 have hru := run_upto w4 (some ⟨g, 0, none⟩) l.1.length c j (by omega) (by omega) (fun h => by cases h) (by omega)
 have hlj : j = ((brk j l.1).take j).length := by rw [List.length_take, brk_length]; omega
 obtain ⟨v5, w5, hr5, hS5, A5, n5, c5, rfl⟩ := run_appN hS4.nilCells (k := 0) rfl ((hS4.cellsRd' (k := 0) rfl).2.upto j) hlj (by simp; omega) 37
 rw [List.nil_append] at hS5
 obtain ⟨hx5, hf5, hz5⟩ := (hS5.box (k := 3) rfl).facts
 have S5 := Lib.hid hS5
 clear hS4 hS5 hlj hx2 hf2 hz2 h4 h5 h7
 generalize w.heap.size = b9 at S5 ⊢
 go_wp2_with (at_builtin; refine wpList_app _ _ (wanted_none rfl) rfl rfl rfl hr5 ?_)
 refine (break_k S5.out (k := 1) (c := j + k) rfl (by rw [brk_length]) (by omega) (by rw [brk_length]; omega) (by omega)).mono ?_
 rintro e w6 ⟨rfl, hS6⟩
 have hrm : (Instr.slice 37 (.slice (some ⟨g, 0, none⟩) l.1.length c) (some (.int .i64 ((j : Int) + k))) none none).run Tryd.prog w6 = .ok (.slice (tailA (some ⟨g, 0, none⟩) c (j + k)) (l.1.length - (j + k)) (c - (j + k))) w6 := by
  rw [show (j : Int) + k = ((j + k : Nat) : Int) by omega]
  exact run_from w6 (some ⟨g, 0, none⟩) l.1.length c (j + k) (by omega) (by omega) (fun h => by cases h) (by omega)
 have hl9 : l.1.length - (j + k) = ((brk (j + k) (brk j l.1)).drop (j + k)).length := by rw [List.length_drop, brk_length, brk_length]
 obtain ⟨v9, w9, hr9, hS9, A9, n9, c9, rfl⟩ := run_appN hS6 (k := 0) rfl ((hS6.cellsRd' (k := 1) rfl).2.from (j + k) (by rw [brk_length, brk_length]; omega)) hl9 (by simp [brk_length]; omega) 37
 have S6 := Lib.hid hS9
 obtain ⟨hx9, hf9, hz9, hp9⟩ := (hS9.box (k := 4) rfl).pbox
 clear hS6 hS9 hl9 hru hr5 hx5 hf5 hz5 hcmp hng hn0
 go_upto_region 16 with (at_builtin; refine wpList_app _ _ (wanted_none rfl) rfl rfl rfl hr9 ?_)
 clear hr9 hrm
 go_wp2_with fail
 refine (r14Blanks_any k (by omega) q w0 _ _ S6.out).mono ?_
 rintro e w7 ⟨vb, rfl, hS7⟩
 obtain ⟨Ab, cb, hvb, hrb⟩ := hS7.cellsRd (k := 0) rfl
 rw [List.length_replicate] at hvb
 subst hvb
 obtain ⟨v8, w8, hr8, hS8, A8, n8, c8, rfl⟩ := run_appN hS7 (k := 1) rfl hrb (List.length_replicate ..).symm (by simp only [List.length_append, List.length_take, List.length_drop, List.length_replicate, brk_length]; omega) 37
 go_upto_region 17 with (at_builtin; refine wpList_app _ _ (wanted_none rfl) rfl rfl rfl hr8 ?_)
 clear hr8 hx9 hf9 hz9 hp9
 obtain ⟨hx10, hf10, hz10⟩ := (hS8.box (k := 4) rfl).facts
 obtain ⟨gr2, cr2, e2, -, -, -, hz11, hx11, -, hf11⟩ := hS8.linesxRd (k := 3) rfl
 cases e2
 have S9 := Lib.hid hS8
 clear hS7 hrb hS8 S5 S6 S3
 have hs := (show (L[i]?).map (·.2) = some l.2 by rw [HL.out]; rfl)
 have HF := (((((((((S9.out.storeRow (k := 3) (j := 1) rfl rfl (by decide) hs).lift (k := 3) rfl).closeGrid (k := 4) rfl).lift (k := 4) rfl).del 1).del 1).del 1).del 1).del 1).del 1
 clear hs
 rw [HP.out] at HF
 go_wp2_with fail
 go_end0
 exact ⟨rfl, HF⟩
set_option maxRecDepth 100000 in
set_option maxHeartbeats 4000000 in
theorem r14Shift_none {i j : Nat} {l : Ln} (q : Pen) (n : Int) (hS : Objs w0 w (.grid p 33 cols L :: os)) (hc : 0 < cols) (hcm : cols ≤ 1000) (hl : L[i]? = some l) (hrow : l.1.length = cols) (hn : n = 0) :
  Calls Tryd.prog 82 #[.pointer (some ⟨p, 0, none⟩), .int .i64 i, .int .i64 j, .int .i64 n, .agg (pv q)] w fun e w' => e = .returned (.tuple #[]) ∧ Objs w0 w' (.grid p 33 cols L :: os) := by
 have S := Lib.hid hS
 have hi : i < L.length := (List.getElem?_eq_some_iff.1 hl).1
 have HL := Lib.hid hl
 have HROW := Lib.hid hrow
 have hlr : l.1.length ≤ 1000 := by omega
 have hlr2 : cols ≤ l.1.length := by omega
 have hlr3 : l.1.length ≤ cols := by omega
 clear hS hl hrow
 subst hn
 have S2 := Lib.hid (S.out.alloc1 (c1 := pv q) (t1 := 54))
 clear S
 obtain ⟨A, c, hB, hm, hr⟩ := S2.out.gridRd (k := 1) rfl
 have hlen : L.length ≤ 9223372036854775807 := by have := hr.1; unfold maxLen at hm; omega
 obtain ⟨hx0, hf0, hz0⟩ := hB.facts
 obtain ⟨b, off, A', c', rfl, hz1, hc1, hc2, hrd⟩ := hr.at_ HL.out
 clear hB hm hr hrd
 go_enter Tryd.func82, Tryd.ntmps82
 go_wp2_with fail
 refine bodyPost_ret (results_none rfl _ _ _) rfl ?_
 exact ⟨rfl, S2.out.tail⟩
end
end Go.Proofs.YtppijfjigcoifaaDoor

namespace Go.Proofs.YtppijfjigcoifaaDoor
open Go.RowKit

section
variable {w0 w : World} {os : List Ob} {p cols : Nat} {L : List Ln}
set_option maxHeartbeats 1000000 in
theorem SetSoft_yes {i : Nat} {l : Ln} (s : Bool) (hS : Objs w0 w (.grid p 58 cols L :: os)) (hc : 0 < cols) (hl : L[i]? = some l) (hlen : L.length ≤ 1000000) :
  Calls Tryd.prog 46 #[.pointer (some ⟨p, 0, none⟩), .int .i64 i, .bool s] w fun e w' => e = .returned (.int .i64 0) ∧ Objs w0 w' (.grid p 58 cols (L.set i (l.1, s)) :: os) := by
 have S := Lib.hid hS
 have hi : i < L.length := (List.getElem?_eq_some_iff.1 hl).1
 have HL := Lib.hid hl
 have HE := Lib.hid (show thereE i L = 0 by unfold thereE; rw [if_pos ⟨by omega, by omega⟩])
 clear hS hl
 go_enter Tryd.func46, Tryd.ntmps46
 go_wp2_with fail
 refine (there_any i S.out (k := 0) rfl hc).mono ?_
 rw [HE.out]
 rintro e w1 ⟨rfl, hS⟩
 obtain ⟨v, hS1⟩ := hS.openGrid (k := 0) rfl
 obtain ⟨A, c, rfl, hcm, hrd⟩ := hS1.linesRd (k := 0) rfl
 obtain ⟨F, bs, hF, -⟩ := hS1.get (k := 0) rfl
 obtain ⟨A2, c2, e2, -, -, -, h4⟩ := hF.form
 simp only [Value.slice.injEq, true_and] at e2
 obtain ⟨rfl, rfl⟩ := e2
 obtain ⟨g, rfl, hz, -, hso, hfz⟩ := h4 (by omega)
 have hso2 := hso i l HL.out
 obtain ⟨hx0, hf0, hz0⟩ := (hS1.box (k := 1) rfl).facts
 have S2 := Lib.hid (((hS1.storeSoft (k := 0) (s := s) rfl HL.out) : Objs w0 _ (.lines _ _ :: _ :: os)).closeGrid (k := 0) rfl)
 clear hS hS1 S hcm hrd hF h4 hso
 go_wp2_with fail
 go_ret
 exact ⟨rfl, S2.out⟩
set_option maxHeartbeats 1000000 in
theorem SetSoft_no {row : Int} (s : Bool) (hS : Objs w0 w (.grid p 58 cols L :: os)) (hc : 0 < cols) (hno : ¬ (0 ≤ row ∧ row < L.length)) :
  Calls Tryd.prog 46 #[.pointer (some ⟨p, 0, none⟩), .int .i64 row, .bool s] w fun e w' => e = .returned (.int .i64 3) ∧ Objs w0 w' (.grid p 58 cols L :: os) := by
 have S := Lib.hid hS
 have HE := Lib.hid (show thereE row L = 3 by unfold thereE; rw [if_neg hno])
 clear hS hno
 go_enter Tryd.func46, Tryd.ntmps46
 go_wp2_with fail
 refine (there_any row S.out (k := 0) rfl hc).mono ?_
 rw [HE.out]
 rintro e w1 ⟨rfl, hS⟩
 have S1 := Lib.hid hS
 clear hS S
 go_wp2_with fail
 go_ret
 exact ⟨rfl, S1.out⟩
end
end Go.Proofs.YtppijfjigcoifaaDoor

namespace Go.Proofs.YtppijfjigcoifaaDoor
open Go.RowKit

def sndV : Value → Value
 | .agg a => a.getD 1 undef
 | v => v
section
variable {w0 w : World} {os : List Ob} {p cols : Nat} {L : List Ln}
set_option maxRecDepth 100000 in
set_option maxHeartbeats 2000000 in
theorem Copy_front (hS : Objs w0 w (.grid p 58 cols L :: os)) (hc : 0 < cols) (hn : ∀ l ∈ L, l.1.length ≤ 1000000) (hL : L.length ≤ 1000000) :
  Calls Tryd.prog 44 #[.pointer (some ⟨p, 0, none⟩)] w fun e w' => ∃ p2, e = .returned (.pointer (some ⟨p2, 0, none⟩)) ∧ Objs w0 w' (.grid p2 58 cols L :: .grid p 58 cols L :: os) := by
 have S := Lib.hid hS
 have HN := Lib.hid hn
 clear hS hn
 go_enter Tryd.func44, Tryd.ntmps44
 go_wp2_with fail
 refine (none_no S.out (k := 0) rfl hc).mono ?_
 rintro e w1 ⟨rfl, hS⟩
 have S1 := Lib.hid hS
 clear hS S
 go_upto_region 3 with (fail)
 refine wp_region_stage (w0 := w0) (os := os) (by kernel_rfl) (by kernel_rfl) (by kernel_rfl) [(0, 5, [5], fun vs => .lines (vs 5) L), (0, 6, [6], fun vs => .lines (sndV (vs 6)) L), (1, 7, [6, 7], fun vs => .box (blkOf (vs 7)) 58 #[.int .i64 ↑cols, sndV (vs 6)]), (1, 8, [6, 8], fun vs => .box (blkOf (vs 8)) 58 #[.int .i64 ↑cols, sndV (vs 6)])] [[], [], [], [2], [], [0, 2], [0], [1], [1]] [.none, .none, .grid p 58 ↑cols L] (fun i u => match i with | 0 => u = pt p 0 | 1 => u = pt p 0 | 2 => u = pt p 0 | 3 => u = .int .i64 ↑cols | 4 => u = pt p 0 | 5 => ∃ A n c, u = .slice A n c | 6 => ∃ A n c, u = .agg #[.int .i64 ↑cols, .slice A n c] | 7 => ∃ g, u = pt g 0 | 8 => ∃ g, u = pt g 0 | _ => True) (fun vs => [.lines (sndV (vs 6)) L, .box (blkOf (vs 8)) 58 #[.int .i64 ↑cols, sndV (vs 6)], .grid p 58 ↑cols L]) (by kernel_rfl) (fun vs => by rfl) S1.out.pad.pad ?_ ?_
 ·apply sc
  ·intro a w' vs σ hS hl hs hk
   have f0 : a.tmps[0]?.getD undef = .pointer (some ⟨p, 0, none⟩) := sof hk
   exact rp (pt p 0) (by simp [execOp, Act.eval, f0, go_sem]) hl hs hS
  apply sc
  ·intro a w' vs σ hS hl hs hk
   have f5 : a.tmps[5]?.getD undef = .pointer (some ⟨p, 0, none⟩) := sf hk 0
   exact rp (pt p 0) (by simp [execOp, Act.eval, f5, go_sem]) hl hs hS
  apply sc
  ·intro a w' vs σ hS hl hs hk
   have f6 : a.tmps[6]?.getD undef = .pointer (some ⟨p, 0, none⟩) := sf hk 1
   exact rp (pt p 0) (by simp [execOp, Act.eval, f6, go_sem]) hl hs hS
  apply sc
  ·intro a w' vs σ hS hl hs hk
   have f7 : a.tmps[7]?.getD undef = .pointer (some ⟨p, 0, none⟩) := sf hk 2
   obtain ⟨A1, c1, hB1, -, -⟩ := hS.gridRd (sg (hs 2 (by decide)))
   have hx := hB1.cell
   exact rp (.int .i64 ↑cols) (by simp [execOp, Act.eval, f7, go_sem, hx]) hl hs hS
  apply sc
  ·intro a w' vs σ hS hl hs hk
   have f0 : a.tmps[0]?.getD undef = .pointer (some ⟨p, 0, none⟩) := sof hk
   exact rp (pt p 0) (by simp [execOp, Act.eval, f0, go_sem]) hl hs hS
  apply sc
  ·intro a w' vs σ hS hl hs hk
   have e9 : a.tmps.getD 9 undef = .pointer (some ⟨p, 0, none⟩) := sv hk 4
   have h0 : σ[0]? = some .none := hs 0 (by decide)
   have h2 : σ[2]? = some (.grid p 58 ↑cols L) := hs 2 (by decide)
   exact ro_call (f := 20) (wanted_none rfl) rfl (by simp only [List.map_toArray, List.map_cons, List.map_nil, Act.eval, e9] <;> rfl) (fun _ _ => by kernel_rfl) ((Lines_any hS (sg h2) hc HN.out hL).mono fun e w2 ⟨x, h1, h2⟩ => ⟨_, h1, sp_set 0 (.lines x L) (by kernel_rfl) (by simp) (by decide) hl hs (by rfl) (h2.place (sg h0)) (by obtain ⟨A, c, e, -⟩ := h2.linesRd (k := 0) rfl; exact ⟨A, _, c, e⟩), trivial⟩)
  apply sc
  ·intro a w' vs σ hS hl hs hk
   have f8 : a.tmps[8]?.getD undef = .int .i64 ↑cols := sf hk 3
   have e10 : a.tmps.getD 10 undef = vs 5 := sk_val hk 5 (by kernel_rfl) rfl rfl
   have p10 : (fun u : Value => ∃ A n c, u = .slice A n c) (vs 5) := (hk.1 5 (by kernel_rfl)).1
   obtain ⟨A5, n5, c5, q5⟩ := p10
   have e9 := e10.trans q5
   have f9 := gd e9
   have h0 : σ[0]? = some (.lines (vs 5) L) := hs 0 (by decide)
   rw [q5] at h0
   have hSS : Objs w0 w' ((σ ++ os).set 0 (.lines (.slice A5 n5 c5) L)) := by rw [set_self (sg h0)]; exact hS
   exact rs_run (v' := .agg #[.int .i64 ↑cols, .slice A5 n5 c5]) (w' := w') (wanted_none rfl) (by simp [execOp, Act.eval, f8, e9, f9, go_sem]) (sp_set 0 (.lines (.slice A5 n5 c5) L) (by kernel_rfl) (by simp) (by decide) hl hs (by rfl) hSS ⟨A5, n5, c5, rfl⟩)
  apply sc
  ·intro a w' vs σ hS hl hs hk
   have e11 : a.tmps.getD 11 undef = vs 6 := sk_val hk 6 (by kernel_rfl) rfl rfl
   have p11 : (fun u : Value => ∃ A n c, u = .agg #[.int .i64 ↑cols, .slice A n c]) (vs 6) := (hk.1 6 (by kernel_rfl)).1
   obtain ⟨A6, n6, c6, q6⟩ := p11
   have e9 := e11.trans q6
   have f9 := gd e9
   have h1 : σ[1]? = some .none := hs 1 (by decide)
   exact rs_run (v' := .pointer (some ⟨w'.heap.size, 0, none⟩)) (w' := w'.alloc (.cells #[.int .i64 ↑cols, .slice A6 n6 c6] 58)) (wanted_none rfl) (by simp [execOp, Act.eval, e9, f9, go_sem]) (sp_set 1 (.box w'.heap.size 58 #[.int .i64 ↑cols, .slice A6 n6 c6]) (by kernel_rfl) (by simp) (by decide) hl hs (by show Ob.box (blkOf (.pointer (some ⟨w'.heap.size, 0, none⟩))) 58 #[.int .i64 ↑cols, sndV (vs 6)] = _; rw [q6]; rfl) (hS.alloc1.place (sg h1)) ⟨_, rfl⟩)
  apply sc
  ·intro a w' vs σ hS hl hs hk
   have e12 : a.tmps.getD 12 undef = vs 7 := sk_val hk 7 (by kernel_rfl) rfl rfl
   have p12 : (fun u : Value => ∃ g, u = .pointer (some ⟨g, 0, none⟩)) (vs 7) := (hk.1 7 (by kernel_rfl)).1
   obtain ⟨g7, q7⟩ := p12
   have e9 := e12.trans q7
   have f9 := gd e9
   have h1 : σ[1]? = some (.box (blkOf (vs 7)) 58 #[.int .i64 ↑cols, sndV (vs 6)]) := hs 1 (by decide)
   rw [q7, show blkOf (.pointer (some ⟨g7, 0, none⟩)) = g7 from rfl] at h1
   have hSS : Objs w0 w' ((σ ++ os).set 1 (.box g7 58 #[.int .i64 ↑cols, sndV (vs 6)])) := by rw [set_self (sg h1)]; exact hS
   exact rs_run (v' := .pointer (some ⟨g7, 0, none⟩)) (w' := w') (wanted_none rfl) (by simp [execOp, Act.eval, e9, f9, go_sem]) (sp_set 1 (.box g7 58 #[.int .i64 ↑cols, sndV (vs 6)]) (by kernel_rfl) (by simp) (by decide) hl hs (by rfl) hSS ⟨g7, rfl⟩)
  exact SSteps.nil
 ·intro vs w' hS hv
  have q0 : vs 0 = _ := hv 0 (by decide)
  have q1 : vs 1 = _ := hv 1 (by decide)
  have q2 : vs 2 = _ := hv 2 (by decide)
  have q3 : vs 3 = _ := hv 3 (by decide)
  have q4 : vs 4 = _ := hv 4 (by decide)
  obtain ⟨g8, q8⟩ := (show ∃ g, vs 8 = .pointer (some ⟨g, 0, none⟩) from hv 8 (by decide))
  rw [q8] at hS
  have S2 := Lib.hid hS
  simp only [putL, Act.put, Nat.zero_add, Nat.reduceAdd, List.setIfInBounds_toArray, List.set_cons_succ, List.set_cons_zero, q0, q1, q2, q3, q4]
  clear hS hv q0 q1 q2 q3 q4
  have HF := (show Objs w0 w' (.lines _ L :: .box g8 58 _ :: _ :: os) from S2.out).closeGrid (k := 0) rfl
  clear S2
  simp only [q8]
  go_wp2_with fail
  go_ret
  exact ⟨g8, rfl, HF⟩
end
end Go.Proofs.YtppijfjigcoifaaDoor

namespace Go.Proofs.YtppijfjigcoifaaDoor
open Go.RowKit

theorem tt_of {f : FuncId} {args : Array Value} {w : World} {b : Bool} (hc : Calls Tryd.prog f args w fun e w' => e = .returned (.bool b) ∧ Below w.heap.size w w') (h : b = true) : Calls Tryd.prog f args w fun e w' => e = .returned (.bool true) ∧ Below w.heap.size w w' := h ▸ hc
theorem ff_of {f : FuncId} {args : Array Value} {w : World} {b : Bool} (hc : Calls Tryd.prog f args w fun e w' => e = .returned (.bool b) ∧ Below w.heap.size w w') (h : b = false) : Calls Tryd.prog f args w fun e w' => e = .returned (.bool false) ∧ Below w.heap.size w w' := h ▸ hc
theorem upto_eqG {α : Type} {xs ys : List α} (hl : xs.length = ys.length) (h : ∀ k, k < xs.length → xs[k]? = ys[k]?) : xs = ys := by
 apply List.ext_getElem?
 intro k
 rcases Nat.lt_or_ge k xs.length with hk | hk
 ·exact h k hk
 ·rw [List.getElem?_eq_none hk, List.getElem?_eq_none (by omega)]
set_option maxHeartbeats 2000000 in
theorem r14SameLine_any (A B : Option Addr) (ca cb : Nat) (xs ys : List Cell) (s t : Bool) (w : World) (ha : RdC w A ca xs) (hb : RdC w B cb ys) (hn : xs.length ≤ 1000000) (hm : ys.length ≤ 1000000) :
  Calls Tryd.prog 41 #[.agg #[.slice A xs.length ca, .bool s], .agg #[.slice B ys.length cb, .bool t]] w fun e w' => e = .returned (.bool (eqL xs s ys t)) ∧ Below w.heap.size w w' := by
 have HA := Lib.hid ha
 have HB := Lib.hid hb
 clear ha hb
 have HD := Lib.hid (lineEq_dec xs ys s t)
 by_cases hst : s = t
 case neg =>
  have h' : (s == t) = false := by simpa using hst
  go_enter Tryd.func41, Tryd.ntmps41
  go_wp2_with fail
  go_ret
  exact ⟨by rw [HD.out]; simp [hst], (belA _ _).trans ((belA _ _).mono (by simp))⟩
 subst hst
 by_cases hl : xs.length = ys.length
 case neg =>
  have HE := Lib.hid (show decide (xs = ys) = false by simp; intro h; exact hl (by rw [h]))
  have hl' : ((xs.length : Int) == (ys.length : Int)) = false := by rw [beq_eq_false_iff_ne]; omega
  clear hl
  go_enter Tryd.func41, Tryd.ntmps41
  go_wp2_with fail
  go_ret
  exact ⟨by rw [HD.out, HE.out]; simp, (belA _ _).trans ((belA _ _).mono (by simp))⟩
 have hl' : ((xs.length : Int) == (ys.length : Int)) = true := by simp; omega
 have HL := Lib.hid hl
 clear hl
 go_enter Tryd.func41, Tryd.ntmps41
 go_wp2_with fail
 go_loopw [5] (fun i wr => ∃ k : Nat, k ≤ xs.length ∧ i = .int .i64 k ∧ (∀ j, j < k → xs[j]? = ys[j]?) ∧ Blk wr w.heap.size 39 #[.slice A xs.length ca, .bool s] ∧ Blk wr (w.heap.size + 1) 39 #[.slice B ys.length cb, .bool s] ∧ Below w.heap.size w wr) (fun i _ => xs.length - (intOf i).toNat)
 case atStart => exact ⟨0, by omega, rfl, fun j hj => by omega, (Blk.new _ _ _).alloc _, by have := Blk.new (w.alloc (.cells #[.slice A xs.length ca, .bool s] 39)) 39 #[.slice B ys.length cb, .bool s]; simpa using this, (belA _ _).trans ((belA _ _).mono (by simp))⟩
 case round =>
  obtain ⟨k, hk, rfl, hj, hk1, hk2, hb⟩ := hrel
  have HJ := Lib.hid hj
  have HW := Lib.hid hb
  have K1 := Lib.hid hk1
  have K2 := Lib.hid hk2
  obtain ⟨hx1, hf1, hz1⟩ := hk1.facts
  obtain ⟨hx2, hf2, hz2⟩ := hk2.facts
  clear hj hb hk1 hk2
  by_cases hlt : k < xs.length
  ·have hlt2 : k < ys.length := by have := HL.out; omega
   obtain ⟨b1, o1, rfl, hz3, hr1⟩ := (HA.out.bel HW.out).at_ hlt
   obtain ⟨b2, o2, rfl, hz4, hr2⟩ := (HB.out.bel HW.out).at_ hlt2
   have hc1 := elem_cell hr1 hlt
   have hc2 := elem_cell hr2 hlt2
   clear hr1 hr2
   by_cases he : xs[k] = ys[k]
   ·have he' : decide (xs[k] = ys[k]) = true := by simpa using he
    have HE := Lib.hid he
    clear he
    go_wp2_with fail
    refine wp_region_below (by kernel_rfl) (by kernel_rfl) ?_
    repeat (go_big_quiet_step (fail))
    refine wpQuiet_nil ?_
    intro w2 hb2
    have K12 := Lib.hid (K1.out.bel hb2)
    have K22 := Lib.hid (K2.out.bel hb2)
    clear hx1 hf1 hz1 hx2 hf2 hz2 hc1 hc2
    go_wp2_with fail
    go_roundw
    case rel => exact ⟨k + 1, by omega, by go_num, upto_succ HJ.out (by rw [List.getElem?_eq_getElem hlt, List.getElem?_eq_getElem hlt2, HE.out]), K12.out, K22.out, HW.out.trans (hb2.mono HW.out.size)⟩
    case measure => simp [intOf]; omega
   ·have he' : decide (xs[k] = ys[k]) = false := by simpa using he
    have HE := Lib.hid (show decide (xs = ys) = false by simp; rintro rfl; exact he rfl)
    clear he
    go_wp2_with fail
    refine wp_region_below (by kernel_rfl) (by kernel_rfl) ?_
    repeat (go_big_quiet_step (fail))
    refine wpQuiet_nil ?_
    intro w2 hb2
    clear hx1 hf1 hz1 hx2 hf2 hz2 hc1 hc2
    go_wp2_with fail
    go_ret
    exact ⟨by rw [HD.out, HE.out]; simp, HW.out.trans (hb2.mono HW.out.size)⟩
  ·have HE := Lib.hid (show decide (xs = ys) = true by simp; exact upto_eq HL.out (fun j hj => HJ.out j (by omega)))
   go_wp2_with fail
   go_ret
   exact ⟨by rw [HD.out, HE.out]; simp, HW.out⟩
theorem eqL_line (a b : Ln) : eqL a.1 a.2 b.1 b.2 = decide (a = b) := rfl
set_option maxHeartbeats 2000000 in
theorem r14SameLines_any (A B : Option Addr) (ca cb : Nat) (xs ys : List Ln) (w : World) (ha : RdL w A ca xs) (hb : RdL w B cb ys) (hn : xs.length ≤ 1000000) (hm : ys.length ≤ 1000000) (hx : ∀ l ∈ xs, l.1.length ≤ 1000000) (hy : ∀ l ∈ ys, l.1.length ≤ 1000000) :
  Calls Tryd.prog 19 #[.slice A xs.length ca, .slice B ys.length cb] w fun e w' => e = .returned (.bool (decide (xs = ys))) ∧ Below w.heap.size w w' := by
 have HA := Lib.hid ha
 have HB := Lib.hid hb
 have HX := Lib.hid hx
 have HY := Lib.hid hy
 clear ha hb hx hy
 by_cases hl : xs.length = ys.length
 case neg =>
  have HE := Lib.hid (show decide (xs = ys) = false by simp; intro h; exact hl (by rw [h]))
  have hl' : ((xs.length : Int) == (ys.length : Int)) = false := by rw [beq_eq_false_iff_ne]; omega
  clear hl
  go_enter Tryd.func19, Tryd.ntmps19
  go_wp2_with fail
  go_ret
  exact ⟨by rw [HE.out]; rfl, Below.refl _ _⟩
 have hl' : ((xs.length : Int) == (ys.length : Int)) = true := by simp; omega
 have HL := Lib.hid hl
 clear hl
 go_enter Tryd.func19, Tryd.ntmps19
 go_wp2_with fail
 go_loopw [5] (fun i wr => ∃ k : Nat, k ≤ xs.length ∧ i = .int .i64 k ∧ (∀ j, j < k → xs[j]? = ys[j]?) ∧ Below w.heap.size w wr) (fun i _ => xs.length - (intOf i).toNat)
 case atStart => exact ⟨0, by omega, rfl, fun j hj => by omega, Below.refl _ _⟩
 case round =>
  obtain ⟨k, hk, rfl, hj, hb⟩ := hrel
  have HJ := Lib.hid hj
  have HW := Lib.hid hb
  clear hj hb
  by_cases hlt : k < xs.length
  ·have hlt2 : k < ys.length := by have := HL.out; omega
   obtain ⟨b1, o1, A1, c1, rfl, hz1, hc1, hc2, hr1⟩ := (HA.out.bel HW.out).at_ (show xs[k]? = some xs[k] by simp [hlt])
   obtain ⟨b2, o2, A2, c2, rfl, hz2, hc3, hc4, hr2⟩ := (HB.out.bel HW.out).at_ (show ys[k]? = some ys[k] by simp [hlt2])
   have HR1 := Lib.hid hr1
   have HR2 := Lib.hid hr2
   clear hr1 hr2
   have HN1 := Lib.hid (HX.out _ (List.getElem_mem hlt))
   have HN2 := Lib.hid (HY.out _ (List.getElem_mem hlt2))
   by_cases he : xs[k] = ys[k]
   ·have HE := Lib.hid he
    have HQ := Lib.hid (show eqL xs[k].1 xs[k].2 ys[k].1 ys[k].2 = true by rw [eqL_line]; simpa using he)
    clear he
    go_wp2_with fail
    refine wp_region_below (by kernel_rfl) (by kernel_rfl) ?_
    repeat (go_big_quiet_step ((go_at_call 41; exact quiet_below (tt_of (r14SameLine_any A1 A2 c1 c2 xs[k].1 ys[k].1 xs[k].2 ys[k].2 _ (HR1.out.bel (below_plus _ _)) (HR2.out.bel (below_plus _ _)) HN1.out HN2.out) HQ.out))))
    refine wpQuiet_nil ?_
    intro w2 hb2
    clear hc1 hc2 hc3 hc4
    go_wp2_with fail
    go_roundw
    case rel => exact ⟨k + 1, by omega, by go_num, upto_succ HJ.out (by rw [List.getElem?_eq_getElem hlt, List.getElem?_eq_getElem hlt2, HE.out]), HW.out.trans (hb2.mono HW.out.size)⟩
    case measure => simp [intOf]; omega
   ·have HE := Lib.hid (show decide (xs = ys) = false by simp; rintro rfl; exact he rfl)
    have HQ := Lib.hid (show eqL xs[k].1 xs[k].2 ys[k].1 ys[k].2 = false by rw [eqL_line]; simpa using he)
    clear he
    go_wp2_with fail
    refine wp_region_below (by kernel_rfl) (by kernel_rfl) ?_
    repeat (go_big_quiet_step ((go_at_call 41; exact quiet_below (ff_of (r14SameLine_any A1 A2 c1 c2 xs[k].1 ys[k].1 xs[k].2 ys[k].2 _ (HR1.out.bel (below_plus _ _)) (HR2.out.bel (below_plus _ _)) HN1.out HN2.out) HQ.out))))
    refine wpQuiet_nil ?_
    intro w2 hb2
    clear hc1 hc2 hc3 hc4
    go_wp2_with fail
    go_ret
    exact ⟨by rw [HE.out]; rfl, HW.out.trans (hb2.mono HW.out.size)⟩
  ·have HE := Lib.hid (show decide (xs = ys) = true by simp; exact upto_eqG HL.out (fun j hj => HJ.out j (by omega)))
   go_wp2_with fail
   go_ret
   exact ⟨by rw [HE.out]; rfl, HW.out⟩
end Go.Proofs.YtppijfjigcoifaaDoor

namespace Go.Proofs.YtppijfjigcoifaaDoor
open Go.RowKit

set_option maxHeartbeats 2000000 in
theorem eqFunc_any (A B : Option Addr) (ca cb : Nat) (xs ys : List Ln) (w : World) (ha : RdL w A ca xs) (hb : RdL w B cb ys) (hn : xs.length ≤ 1000000) (hm : ys.length ≤ 1000000) (hx : ∀ l ∈ xs, l.1.length ≤ 1000000) (hy : ∀ l ∈ ys, l.1.length ≤ 1000000) :
  Calls Tryd.prog 85 #[.slice A xs.length ca, .slice B ys.length cb, .func (.func 86) #[] #[]] w fun e w' => e = .returned (.bool (decide (xs = ys))) ∧ Below w.heap.size w w' := by
 have HA := Lib.hid ha
 have HB := Lib.hid hb
 have HX := Lib.hid hx
 have HY := Lib.hid hy
 clear ha hb hx hy
 by_cases hl : xs.length = ys.length
 case neg =>
  have HE := Lib.hid (show decide (xs = ys) = false by simp; intro h; exact hl (by rw [h]))
  have hl' : ((xs.length : Int) == (ys.length : Int)) = false := by rw [beq_eq_false_iff_ne]; omega
  clear hl
  go_enter Tryd.func85, Tryd.ntmps85
  go_wp2_with fail
  go_ret
  exact ⟨by rw [HE.out]; rfl, Below.refl _ _⟩
 have hl' : ((xs.length : Int) == (ys.length : Int)) = true := by simp; omega
 have hl2 : ((xs.length : Int) != (ys.length : Int)) = false := by simp; omega
 have HL := Lib.hid hl
 clear hl
 go_enter Tryd.func85, Tryd.ntmps85
 go_wp2_with fail
 go_loopw [7, 8, 9, 17] (fun _ _ _ i wr => ∃ k : Nat, k ≤ xs.length ∧ i = .int .i64 k ∧ (∀ j, j < k → xs[j]? = ys[j]?) ∧ Below w.heap.size w wr) (fun _ _ _ i _ => xs.length - (intOf i).toNat)
 case atStart => exact ⟨0, by omega, rfl, fun j hj => by omega, Below.refl _ _⟩
 case round =>
  obtain ⟨k, hk, rfl, hj, hb⟩ := hrel
  have HJ := Lib.hid hj
  have HW := Lib.hid hb
  clear hj hb
  by_cases hlt : k < xs.length
  ·have hlt2 : k < ys.length := by have := HL.out; omega
   obtain ⟨b1, o1, A1, c1, rfl, hz1, hc1, hc2, hr1⟩ := (HA.out.bel HW.out).at_ (show xs[k]? = some xs[k] by simp [hlt])
   obtain ⟨b2, o2, A2, c2, rfl, hz2, hc3, hc4, hr2⟩ := (HB.out.bel HW.out).at_ (show ys[k]? = some ys[k] by simp [hlt2])
   have HR1 := Lib.hid hr1
   have HR2 := Lib.hid hr2
   clear hr1 hr2
   have HN1 := Lib.hid (HX.out _ (List.getElem_mem hlt))
   have HN2 := Lib.hid (HY.out _ (List.getElem_mem hlt2))
   by_cases he : xs[k] = ys[k]
   ·have HE := Lib.hid he
    have HQ := Lib.hid (show eqL xs[k].1 xs[k].2 ys[k].1 ys[k].2 = true by rw [eqL_line]; simpa using he)
    clear he
    go_wp2_with fail
    refine (tt_of (lineEqual_any A1 A2 c1 c2 xs[k].1 ys[k].1 xs[k].2 ys[k].2 _ ((HR1.out.alloc _).alloc _) ((HR2.out.alloc _).alloc _) HN1.out HN2.out) HQ.out).mono ?_
    rintro e w2 ⟨rfl, hb2⟩
    have HB2 := Lib.hid (bel1 (bel1 hb2))
    clear hc1 hc2 hc3 hc4 hb2
    go_wp2_with fail
    go_roundw
    case rel => exact ⟨k + 1, by omega, by go_num, upto_succ HJ.out (by rw [List.getElem?_eq_getElem hlt, List.getElem?_eq_getElem hlt2, HE.out]), HW.out.trans (HB2.out.mono HW.out.size)⟩
    case measure => simp [intOf]; omega
   ·have HE := Lib.hid (show decide (xs = ys) = false by simp; rintro rfl; exact he rfl)
    have HQ := Lib.hid (show eqL xs[k].1 xs[k].2 ys[k].1 ys[k].2 = false by rw [eqL_line]; simpa using he)
    clear he
    go_wp2_with fail
    refine (ff_of (lineEqual_any A1 A2 c1 c2 xs[k].1 ys[k].1 xs[k].2 ys[k].2 _ ((HR1.out.alloc _).alloc _) ((HR2.out.alloc _).alloc _) HN1.out HN2.out) HQ.out).mono ?_
    rintro e w2 ⟨rfl, hb2⟩
    have HB2 := Lib.hid (bel1 (bel1 hb2))
    clear hc1 hc2 hc3 hc4 hb2
    go_wp2_with fail
    go_ret
    exact ⟨by rw [HE.out]; rfl, HW.out.trans (HB2.out.mono HW.out.size)⟩
  ·have HE := Lib.hid (show decide (xs = ys) = true by simp; exact upto_eqG HL.out (fun j hj => HJ.out j (by omega)))
   go_wp2_with fail
   go_ret
   exact ⟨by rw [HE.out]; rfl, HW.out⟩
end Go.Proofs.YtppijfjigcoifaaDoor

namespace Go.Proofs.YtppijfjigcoifaaDoor
open Go.RowKit

section
variable {w0 w : World} {os : List Ob}
set_option maxHeartbeats 2000000 in
theorem Same_any {k1 k2 p1 p2 c1 c2 : Nat} {L1 L2 : List Ln} (hS : Objs w0 w os) (hk1 : os[k1]? = some (.grid p1 58 c1 L1)) (hk2 : os[k2]? = some (.grid p2 58 c2 L2)) (h1 : 0 < c1) (h2 : 0 < c2) (hn1 : L1.length ≤ 1000000) (hn2 : L2.length ≤ 1000000) (hx : ∀ l ∈ L1, l.1.length ≤ 1000000) (hy : ∀ l ∈ L2, l.1.length ≤ 1000000) :
  Calls Tryd.prog 47 #[.pointer (some ⟨p1, 0, none⟩), .pointer (some ⟨p2, 0, none⟩)] w fun e w' => e = .returned (.bool (decide (c1 = c2) && decide (L1 = L2))) ∧ Objs w0 w' os := by
 have S := Lib.hid hS
 have HK1 := Lib.hid hk1
 have HK2 := Lib.hid hk2
 have HX := Lib.hid hx
 have HY := Lib.hid hy
 clear hS hk1 hk2 hx hy
 go_enter Tryd.func47, Tryd.ntmps47
 go_wp2_with fail
 refine (none_no S.out HK1.out h1).mono ?_
 rintro e w1 ⟨rfl, hS⟩
 have S1 := Lib.hid hS
 clear hS
 go_wp2_with fail
 refine (none_no S1.out HK2.out h2).mono ?_
 rintro e w2 ⟨rfl, hS⟩
 have S2 := Lib.hid hS
 obtain ⟨A1, d1, hB1, -, hr1⟩ := hS.gridRd HK1.out
 obtain ⟨A2, d2, hB2, -, hr2⟩ := hS.gridRd HK2.out
 have R1 := Lib.hid hr1
 have R2 := Lib.hid hr2
 obtain ⟨hx1, hf1, hz1⟩ := hB1.facts
 obtain ⟨hx2, hf2, hz2⟩ := hB2.facts
 clear hS hB1 hB2 hr1 hr2
 by_cases hc : c1 = c2
 case neg =>
  have hc' : decide ((c1 : Int) = (c2 : Int)) = false := by simp; omega
  have hcb : ((c1 : Int) == (c2 : Int)) = false := by rw [beq_eq_false_iff_ne]; omega
  have HC := Lib.hid hc
  clear hc
  go_wp2_with fail
  refine wp_region_below (by kernel_rfl) (by kernel_rfl) ?_
  repeat (go_big_quiet_step (fail))
  refine wpQuiet_nil ?_
  intro w3 hb3
  have S3 := Lib.hid (S2.out.bel hb3)
  clear hx1 hf1 hz1 hx2 hf2 hz2
  go_wp2_with fail
  go_ret
  exact ⟨by rw [show decide (c1 = c2) = false by simpa using HC.out]; rfl, S3.out⟩
 subst hc
 go_wp2_with fail
 refine wp_region_below (by kernel_rfl) (by kernel_rfl) ?_
 repeat (go_big_quiet_step ((go_at_call 85; exact quiet_below (eqFunc_any A1 A2 d1 d2 L1 L2 _ (R1.out.bel (below_plus _ _)) (R2.out.bel (below_plus _ _)) hn1 hn2 HX.out HY.out))))
 refine wpQuiet_nil ?_
 intro w3 hb3
 have S3 := Lib.hid (S2.out.bel hb3)
 clear hx1 hf1 hz1 hx2 hf2 hz2
 go_wp2_with fail
 go_ret
 exact ⟨by simp, S3.out⟩
end
end Go.Proofs.YtppijfjigcoifaaDoor

namespace Go.Proofs.YtppijfjigcoifaaDoor
open Go.RowKit

def rowMod (i : Nat) (f : List Cell → List Cell) (L : List Ln) : List Ln := match L[i]? with | some l => L.set i (f l.1, l.2) | none => L
def softMod (i : Nat) (s : Bool) (L : List Ln) : List Ln := match L[i]? with | some l => L.set i (l.1, s) | none => L
theorem rowMod_some {i : Nat} {f : List Cell → List Cell} {L : List Ln} {l : Ln} (h : L[i]? = some l) : rowMod i f L = L.set i (f l.1, l.2) := by unfold rowMod; rw [h]
theorem softMod_some {i : Nat} {s : Bool} {L : List Ln} {l : Ln} (h : L[i]? = some l) : softMod i s L = L.set i (l.1, s) := by unfold softMod; rw [h]
theorem rowMod_length (i : Nat) (f : List Cell → List Cell) (L : List Ln) : (rowMod i f L).length = L.length := by unfold rowMod; split <;> simp
theorem softMod_length (i : Nat) (s : Bool) (L : List Ln) : (softMod i s L).length = L.length := by unfold softMod; split <;> simp
theorem rect_set {n i : Nat} {L : List Ln} {l : Ln} (h : Rect n L) (hl : l.1.length = n) : Rect n (L.set i l) := fun x hx => by
 rcases List.mem_or_eq_of_mem_set hx with h1 | rfl
 ·exact h x h1
 ·exact hl
theorem Rect.rowMod {n : Nat} {L : List Ln} (h : Rect n L) (i : Nat) {f : List Cell → List Cell} (hf : ∀ cs : List Cell, cs.length = n → (f cs).length = n) : Rect n (rowMod i f L) := by
 unfold Proofs.YtppijfjigcoifaaDoor.rowMod
 split
 ·rename_i l hl; exact rect_set h (hf _ (h.at_ hl))
 ·exact h
theorem Rect.softMod {n : Nat} {L : List Ln} (h : Rect n L) (i : Nat) (s : Bool) : Rect n (softMod i s L) := by
 unfold Proofs.YtppijfjigcoifaaDoor.softMod
 split
 ·rename_i l hl; exact rect_set h (show l.1.length = n from h.at_ hl)
 ·exact h
theorem Rect.mill {n : Nat} {L : List Ln} (h : Rect n L) (hn : n ≤ 1000) : ∀ l ∈ L, l.1.length ≤ 1000000 := fun l hl => by rw [h l hl]; omega
theorem get_of {α : Type} {L : List α} {i : Nat} (h : i < L.length) : ∃ l, L[i]? = some l := ⟨L[i], by simp [h]⟩
section
variable {w0 w : World} {os : List Ob} {k p cols : Nat} {L : List Ln}
theorem set_at {k : Nat} {o o' : Ob} (hk : os[k]? = some o) : (os.set k o')[k]? = some o' := List.getElem?_set_self (List.getElem?_eq_some_iff.1 hk).1
theorem PutG {i j : Nat} (x : Cell) (hT : Tabs w0) (hS : Objs w0 w os) (hk : os[k]? = some (.grid p 58 cols L)) (hcm : cols ≤ 1000) (hR : Rect cols L) (hi : i < L.length) (hv : x.ok = true) (hw : ¬ x.width = 0) (hfit : (j : Int) + x.width ≤ cols) :
  Calls Tryd.prog 33 #[.pointer (some ⟨p, 0, none⟩), .int .i64 i, .int .i64 j, .agg (cv x)] w fun e w' => e = .returned (.int .i64 0) ∧ Objs w0 w' (os.set k (.grid p 58 cols (rowMod i (putC j x) L))) := by
 obtain ⟨l, hl⟩ := get_of hi
 rw [rowMod_some hl]
 have hxw : 1 ≤ x.width := by rcases ok_w12 hv hw with h | h <;> omega
 exact front_call hS hk (fun os1 h => Put_yes x hT h (by omega) hcm hl (hR.at_ hl) hv hw hfit)
theorem r14PutG {i j : Nat} (x : Cell) (hS : Objs w0 w os) (hk : os[k]? = some (.grid p 33 cols L)) (hcm : cols ≤ 1000) (hR : Rect cols L) (hi : i < L.length) (hv : x.ok = true) (hw : ¬ x.width = 0) (hfit : (j : Int) + x.width ≤ cols) :
  Calls Tryd.prog 34 #[.pointer (some ⟨p, 0, none⟩), .int .i64 i, .int .i64 j, .agg (cv x)] w fun e w' => e = .returned (.tuple #[]) ∧ Objs w0 w' (os.set k (.grid p 33 cols (rowMod i (putC j x) L))) := by
 obtain ⟨l, hl⟩ := get_of hi
 rw [rowMod_some hl]
 have hxw : 1 ≤ x.width := by rcases ok_w12 hv hw with h | h <;> omega
 exact front_call hS hk (fun os1 h => r14Put_any x h (by omega) hcm hl (hR.at_ hl) hv hw hfit)
theorem SetSoftG {i : Nat} (s : Bool) (hS : Objs w0 w os) (hk : os[k]? = some (.grid p 58 cols L)) (hc : 0 < cols) (hi : i < L.length) (hlen : L.length ≤ 1000000) :
  Calls Tryd.prog 46 #[.pointer (some ⟨p, 0, none⟩), .int .i64 i, .bool s] w fun e w' => e = .returned (.int .i64 0) ∧ Objs w0 w' (os.set k (.grid p 58 cols (softMod i s L))) := by
 obtain ⟨l, hl⟩ := get_of hi
 rw [softMod_some hl]
 exact front_call hS hk (fun os1 h => SetSoft_yes s h hc hl hlen)
theorem ClearG {i f t : Nat} (q : Pen) (hT : Tabs w0) (hS : Objs w0 w os) (hk : os[k]? = some (.grid p 58 cols L)) (hc : 0 < cols) (hcm : cols ≤ 1000) (hR : Rect cols L) (hi : i < L.length) (hq : q.ok = true) (hft : f ≤ t) (ht : t ≤ cols) :
  Calls Tryd.prog 51 #[.pointer (some ⟨p, 0, none⟩), .int .i64 i, .int .i64 f, .int .i64 t, .agg (pv q)] w fun e w' => e = .returned (.int .i64 0) ∧ Objs w0 w' (os.set k (.grid p 58 cols (rowMod i (clearC f t q) L))) := by
 obtain ⟨l, hl⟩ := get_of hi
 rw [rowMod_some hl]
 rcases Nat.lt_or_ge f t with h1 | h1
 ·exact front_call hS hk (fun os1 h => Clear_yes q hT h hc hcm hl (hR.at_ hl) hq h1 ht)
 ·have e : clearC f t q l.1 = l.1 := by unfold clearC; rw [if_neg (by omega)]
  rw [e, set_self hl]
  exact front_call hS hk (fun os1 h => Clear_none q hT h hc hcm (by omega) (by omega) hq)
theorem r14ClearG {i f t : Nat} (q : Pen) (hS : Objs w0 w os) (hk : os[k]? = some (.grid p 33 cols L)) (hc : 0 < cols) (hcm : cols ≤ 1000) (hR : Rect cols L) (hi : i < L.length) (ht : t ≤ cols) :
  Calls Tryd.prog 81 #[.pointer (some ⟨p, 0, none⟩), .int .i64 i, .int .i64 f, .int .i64 t, .agg (pv q)] w fun e w' => e = .returned (.tuple #[]) ∧ Objs w0 w' (os.set k (.grid p 33 cols (rowMod i (clearC f t q) L))) := by
 obtain ⟨l, hl⟩ := get_of hi
 rw [rowMod_some hl]
 rcases Nat.lt_or_ge f t with h1 | h1
 ·exact front_call hS hk (fun os1 h => r14Clear_yes q h hc hcm hl (hR.at_ hl) h1 ht)
 ·have e : clearC f t q l.1 = l.1 := by unfold clearC; rw [if_neg (by omega)]
  rw [e, set_self hl]
  exact front_call hS hk (fun os1 h => r14Clear_none q h hc hcm hl (hR.at_ hl) h1)
theorem CopyG (hS : Objs w0 w os) (hk : os[k]? = some (.grid p 58 cols L)) (hc : 0 < cols) (hcm : cols ≤ 1000) (hR : Rect cols L) (hL : L.length ≤ 1000000) :
  Calls Tryd.prog 44 #[.pointer (some ⟨p, 0, none⟩)] w fun e w' => ∃ p2, e = .returned (.pointer (some ⟨p2, 0, none⟩)) ∧ Objs w0 w' (.grid p2 58 cols L :: os) := by
 have hS2 := hS.lift hk
 refine (Copy_front hS2 hc (hR.mill hcm) hL).mono ?_
 rintro e w' ⟨p2, rfl, h⟩
 have h2 := h.lowerNew hk
 rw [set_self hk] at h2
 exact ⟨p2, rfl, h2⟩
end
end Go.Proofs.YtppijfjigcoifaaDoor

namespace Go.Proofs.YtppijfjigcoifaaDoor
open Go.RowKit

def rollK (n : Int) (many : Nat) : Nat := if -(many : Int) < n ∧ n < many then n.natAbs else many
theorem rollK_le (n : Int) (many : Nat) : rollK n many ≤ many := by unfold rollK; split <;> omega
def lastHard (S : List Ln) : List Ln := softMod (S.length - 1) false S
theorem lastHard_length (S : List Ln) : (lastHard S).length = S.length := softMod_length _ _ _
def rollIn (top bot : Nat) (L : List Ln) : List Ln := (L.drop top).take (bot + 1 - top)
def rollGone (top bot : Nat) (n : Int) (L : List Ln) : List Ln :=
 if n = 0 then [] else if 0 < n then (rollIn top bot L).take (rollK n (bot + 1 - top)) else (rollIn top bot L).drop (bot + 1 - top - rollK n (bot + 1 - top))
def rollStay (top bot : Nat) (n : Int) (L : List Ln) : List Ln :=
 if 0 < n then (rollIn top bot L).drop (rollK n (bot + 1 - top)) else (rollIn top bot L).take (bot + 1 - top - rollK n (bot + 1 - top))
def rollFresh (k cols : Nat) (q : Pen) : List Ln := List.replicate k (List.replicate cols (blank q), false)
def rollMid (top bot : Nat) (n : Int) (q : Pen) (cols : Nat) (L : List Ln) : List Ln :=
 if 0 < n then lastHard (rollStay top bot n L) ++ rollFresh (rollK n (bot + 1 - top)) cols q else rollFresh (rollK n (bot + 1 - top)) cols q ++ lastHard (rollStay top bot n L)
def topHard (top : Nat) (L : List Ln) : List Ln := if 0 < top then softMod (top - 1) false L else L
def rollL (top bot : Nat) (n : Int) (q : Pen) (cols : Nat) (L : List Ln) : List Ln :=
 if n = 0 then L else topHard top (L.take top ++ (rollMid top bot n q cols L ++ L.drop (bot + 1)))
theorem topHard_length (top : Nat) (L : List Ln) : (topHard top L).length = L.length := by unfold topHard; split; exact softMod_length _ _ _; rfl
theorem Rect.topHard {n : Nat} {L : List Ln} (h : Rect n L) (top : Nat) : Rect n (topHard top L) := by unfold Proofs.YtppijfjigcoifaaDoor.topHard; split; exact h.softMod _ _; exact h
section
variable {top bot : Nat} {n : Int} {q : Pen} {cols : Nat} {L : List Ln}
theorem rollIn_length (h1 : top ≤ bot) (h2 : bot < L.length) : (rollIn top bot L).length = bot + 1 - top := by simp [rollIn]; omega
theorem rollStay_length (h1 : top ≤ bot) (h2 : bot < L.length) : (rollStay top bot n L).length = bot + 1 - top - rollK n (bot + 1 - top) := by
 have := rollK_le n (bot + 1 - top)
 unfold rollStay
 split <;> simp [rollIn_length h1 h2]
theorem rollMid_length (h1 : top ≤ bot) (h2 : bot < L.length) : (rollMid top bot n q cols L).length = bot + 1 - top := by
 have := rollK_le n (bot + 1 - top)
 unfold rollMid
 split <;> simp [lastHard_length, rollStay_length h1 h2, rollFresh] <;> omega
theorem rollL_length (h1 : top ≤ bot) (h2 : bot < L.length) : (rollL top bot n q cols L).length = L.length := by
 unfold rollL
 split
 ·rfl
 ·rw [topHard_length]; simp [rollMid_length h1 h2]; omega
theorem Rect.part {n : Nat} {L : List Ln} (h : Rect n L) (a b : Nat) : Rect n ((L.drop a).take b) := fun l hl => h l (List.mem_of_mem_drop (List.mem_of_mem_take hl))
theorem Rect.app {n : Nat} {A B : List Ln} (h : Rect n A) (g : Rect n B) : Rect n (A ++ B) := fun l hl => (List.mem_append.1 hl).elim (h l) (g l)
theorem rect_fresh (k cols : Nat) (q : Pen) : Rect cols (rollFresh k cols q) := fun l hl => by rw [(List.mem_replicate.1 hl).2]; simp
theorem Rect.rollStay {cols : Nat} {L : List Ln} (h : Rect cols L) (top bot : Nat) (n : Int) : Rect cols (rollStay top bot n L) := by
 unfold Proofs.YtppijfjigcoifaaDoor.rollStay
 split
 ·exact fun l hl => h.part _ _ l (List.mem_of_mem_drop hl)
 ·exact fun l hl => h.part _ _ l (List.mem_of_mem_take hl)
theorem Rect.rollGone {cols : Nat} {L : List Ln} (h : Rect cols L) (top bot : Nat) (n : Int) : Rect cols (rollGone top bot n L) := by
 unfold Proofs.YtppijfjigcoifaaDoor.rollGone
 split
 ·intro l hl; simp at hl
 ·split
  ·exact fun l hl => h.part _ _ l (List.mem_of_mem_take hl)
  ·exact fun l hl => h.part _ _ l (List.mem_of_mem_drop hl)
theorem Rect.rollL {L : List Ln} (h : Rect cols L) : Rect cols (rollL top bot n q cols L) := by
 unfold Proofs.YtppijfjigcoifaaDoor.rollL
 split
 ·exact h
 ·refine Rect.topHard (Rect.app (fun l hl => h l (List.mem_of_mem_take hl)) (Rect.app ?_ (fun l hl => h l (List.mem_of_mem_drop hl)))) _
  unfold rollMid
  split
  ·exact ((h.rollStay _ _ _).softMod _ _).app (rect_fresh _ _ _)
  ·exact (rect_fresh _ _ _).app ((h.rollStay _ _ _).softMod _ _)
end
def hardR (S : List Tr) : List Tr := match S[S.length - 1]? with | some x => S.set (S.length - 1) (x.1, x.2.1, false) | none => S
theorem hardR_length (S : List Tr) : (hardR S).length = S.length := by unfold hardR; split <;> simp
theorem lnP_length (T : List Tr) : (lnP T).length = T.length := by simp [lnP]
theorem hdP_length (T : List Tr) : (hdP T).length = T.length := by simp [hdP]
theorem lnP_append (A B : List Tr) : lnP (A ++ B) = lnP A ++ lnP B := by simp [lnP]
theorem hdP_append (A B : List Tr) : hdP (A ++ B) = hdP A ++ hdP B := by simp [hdP]
theorem piP_append (A B : List Tr) : piP (A ++ B) = piP A ++ piP B := by simp [piP]
theorem lnP_hardR (S : List Tr) : lnP (hardR S) = lastHard (lnP S) := by
 unfold hardR lastHard softMod
 rw [lnP_length]
 have e : (lnP S)[S.length - 1]? = (S[S.length - 1]?).map (·.2) := by simp [lnP]
 rw [e]
 cases h : S[S.length - 1]? with
 | none => rfl
 | some x => simp only [Option.map_some]; simp [lnP]
theorem piP_hardR (S : List Tr) : piP (hardR S) = piP S := by
 unfold hardR
 split
 ·rename_i x hx
  unfold piP
  rw [List.map_set, set_self (by rw [List.getElem?_map, hx]; rfl)]
 ·rfl
theorem hdP_hardR {S : List Tr} {x : Tr} (hx : S[S.length - 1]? = some x) : hdP (hardR S) = (hdP S).set (S.length - 1) (x.1, false) := by
 unfold hardR
 rw [hx]
 simp [hdP]
section
variable {w0 w : World} {os : List Ob}
theorem Objs.deal {T G X1 F X3 : List Tr} {v vg : Value} (hp : (piP T).Perm (piP G ++ (piP X1 ++ piP X3))) (h : Objs w0 w (.pile (piP T ++ piP F) :: .heads vg (hdP G) :: .heads v (hdP (X1 ++ (F ++ X3))) :: os)) :
  Objs w0 w (.lines vg (lnP G) :: .lines v (lnP (X1 ++ (F ++ X3))) :: os) := by
 have hp2 : (piP T ++ piP F).Perm (piP G ++ piP (X1 ++ (F ++ X3))) := by
  rw [piP_append, piP_append]
  refine (hp.append_right _).trans ?_
  rw [List.append_assoc, List.append_assoc]
  exact (List.Perm.append_left _ (List.Perm.append_left _ List.perm_append_comm))
 have h1 := (h.pilePerm (k := 0) rfl hp2 : Objs w0 w (.pile (piP G ++ piP (X1 ++ (F ++ X3))) :: .heads vg (hdP G) :: .heads v (hdP (X1 ++ (F ++ X3))) :: os))
 have h2 := h1.pileSplit
 have h3 := (h2.ofHeads (k := 1) rfl : Objs w0 w (.pile (piP (X1 ++ (F ++ X3))) :: .lines vg (lnP G) :: .heads v (hdP (X1 ++ (F ++ X3))) :: os))
 exact (h3.ofHeads (k := 1) rfl : Objs w0 w (.lines vg (lnP G) :: .lines v (lnP (X1 ++ (F ++ X3))) :: os))
theorem Objs.pileMore {ps : List (Value × List Cell)} {v : Value} {cs : List Cell} (h : Objs w0 w (.cells v cs :: .pile ps :: os)) : Objs w0 w (.pile (ps ++ [(v, cs)]) :: os) :=
 ((h.pileOne (k := 0) rfl : Objs w0 w (.pile [(v, cs)] :: .pile ps :: os)).swap).pileJoin
end
theorem hdP_take (T : List Tr) (a : Nat) : (hdP T).take a = hdP (T.take a) := by simp [hdP]
theorem hdP_drop (T : List Tr) (a : Nat) : (hdP T).drop a = hdP (T.drop a) := by simp [hdP]
theorem hdP_copied (T : List Tr) (i a m : Nat) : (hdP T).take i ++ (((hdP T).drop a).take m ++ (hdP T).drop (i + m)) = hdP (T.take i) ++ (hdP ((T.drop a).take m) ++ hdP (T.drop (i + m))) := by
 rw [hdP_take, hdP_drop, hdP_take, hdP_drop]
theorem hdP_harden {A S R : List Tr} {x : Tr} (hx : S[S.length - 1]? = some x) : (hdP A ++ (hdP S ++ hdP R)).set (A.length + (S.length - 1)) (x.1, false) = hdP A ++ (hdP (hardR S) ++ hdP R) := by
 have hl : S.length - 1 < S.length := (List.getElem?_eq_some_iff.1 hx).1
 rw [List.set_append_right _ _ (by rw [hdP_length]; omega), hdP_length, Nat.add_sub_cancel_left, List.set_append_left _ _ (by rw [hdP_length]; exact hl), hdP_hardR hx]
theorem hdP_fill {X1 F R : List Tr} {a0 i : Nat} (v : Value) (cs : List Cell) (b : Bool) (h1 : X1.length = a0) (h2 : F.length = i) (h3 : i < R.length) : (hdP X1 ++ (hdP F ++ hdP (R.drop i))).set (a0 + i) (v, b) = hdP X1 ++ (hdP (F ++ [(v, cs, b)]) ++ hdP (R.drop (i + 1))) := by
 rw [List.set_append_right _ _ (by rw [hdP_length]; omega), hdP_length, h1, Nat.add_sub_cancel_left, List.set_append_right _ _ (by rw [hdP_length]; omega), hdP_length, h2, Nat.sub_self]
 rw [List.drop_eq_getElem_cons h3, hdP_append, List.append_assoc]
 rfl
section
variable {w0 w : World} {os : List Ob}
theorem Objs.pileIn {ps : List (Value × List Cell)} {v : Value} {cs : List Cell} {o1 o2 o3 o4 : Ob} (h : Objs w0 w (.cells v cs :: o1 :: o2 :: o3 :: o4 :: .pile ps :: os)) : Objs w0 w (o1 :: o2 :: o3 :: o4 :: .pile (ps ++ [(v, cs)]) :: os) :=
 (((h.lift (k := 5) rfl : Objs w0 w (.pile ps :: .cells v cs :: o1 :: o2 :: o3 :: o4 :: .none :: os)).swap).pileMore).place (k := 4) rfl
theorem Objs.dealIn {T G X1 F X3 : List Tr} {v vg : Value} {o2 o3 : Ob} (hp : (piP T).Perm (piP G ++ (piP X1 ++ piP X3))) (h : Objs w0 w (.heads v (hdP X1 ++ (hdP F ++ hdP X3)) :: o2 :: o3 :: .heads vg (hdP G) :: .pile (piP T ++ piP F) :: os)) :
  Objs w0 w (.lines vg (lnP G) :: .lines v (lnP X1 ++ (lnP F ++ lnP X3)) :: o2 :: o3 :: os) := by
 have h1 := (h.lift (k := 4) rfl : Objs w0 w (.pile (piP T ++ piP F) :: .heads v (hdP X1 ++ (hdP F ++ hdP X3)) :: o2 :: o3 :: .heads vg (hdP G) :: .none :: os))
 have h2 := (h1.lift (k := 4) rfl : Objs w0 w (.heads vg (hdP G) :: .pile (piP T ++ piP F) :: .heads v (hdP X1 ++ (hdP F ++ hdP X3)) :: o2 :: o3 :: .none :: .none :: os)).swap
 have h3 := ((h2.del 5).del 5 : Objs w0 w (.pile (piP T ++ piP F) :: .heads vg (hdP G) :: .heads v (hdP X1 ++ (hdP F ++ hdP X3)) :: o2 :: o3 :: os))
 rw [← hdP_append, ← hdP_append] at h3
 have h4 := h3.deal hp
 rw [lnP_append, lnP_append] at h4
 exact h4
end
theorem parted {α : Type} (T : List α) (a m : Nat) : T = T.take a ++ ((T.drop a).take m ++ T.drop (a + m)) := by
 conv => lhs; rw [← List.take_append_drop a T, ← List.take_append_drop m (T.drop a), List.drop_drop]
theorem lnP_take (T : List Tr) (a : Nat) : lnP (T.take a) = (lnP T).take a := by simp [lnP]
theorem lnP_drop (T : List Tr) (a : Nat) : lnP (T.drop a) = (lnP T).drop a := by simp [lnP]
section
variable {T F : List Tr} {L : List Ln} {top bot k many cols : Nat} {n : Int} {q : Pen}
theorem rollK_is (hm : many = bot + 1 - top) (hk : (n < (many : Int) ∧ -(many : Int) < n ∧ n.natAbs = k) ∨ (((many : Int) ≤ n ∨ n ≤ -(many : Int)) ∧ k = many)) : rollK n (bot + 1 - top) = k := by
 rw [← hm]; unfold rollK
 rcases hk with ⟨h1, h2, h3⟩ | ⟨h1, h2⟩
 ·rw [if_pos ⟨h2, h1⟩]; exact h3
 ·rw [if_neg (by omega)]; exact h2.symm
theorem gone_pos (hTL : lnP T = L) (hn : 0 < n) (hm : many = bot + 1 - top) (hk : rollK n (bot + 1 - top) = k) (hkm : k ≤ many) : lnP ((T.drop top).take k) = rollGone top bot n L := by
 subst hTL
 unfold rollGone rollIn
 rw [if_neg (by omega), if_pos hn, hk, ← hm, List.take_take, Nat.min_eq_left hkm, lnP_take, lnP_drop]
theorem left_pos (hTL : lnP T = L) (hn : 0 < n) (hm : many = bot + 1 - top) (htb : top ≤ bot) (hk : rollK n (bot + 1 - top) = k) (hkm : k ≤ many) (hF : lnP F = rollFresh k cols q) :
  topHard top (lnP (T.take top ++ hardR ((T.drop (top + k)).take (many - k))) ++ (lnP F ++ lnP ((T.drop (top + (many - k))).drop k))) = rollL top bot n q cols L := by
 subst hTL
 unfold rollL rollMid rollStay rollIn
 rw [if_neg (by omega), if_pos hn, if_pos hn, hk, ← hm, hF, List.drop_take, List.drop_drop, lnP_append, lnP_take, lnP_hardR, lnP_take, lnP_drop, List.drop_drop, lnP_drop, show top + (many - k) + k = bot + 1 by omega]
 simp only [List.append_assoc]
theorem perm_pos (hkm : k ≤ many) : (piP T).Perm (piP ((T.drop top).take k) ++ (piP (T.take top ++ hardR ((T.drop (top + k)).take (many - k))) ++ piP ((T.drop (top + (many - k))).drop k))) := by
 have e : T = T.take top ++ ((T.drop top).take k ++ ((T.drop (top + k)).take (many - k) ++ (T.drop (top + (many - k))).drop k)) := by
  conv => lhs; rw [parted T top k, parted (T.drop (top + k)) 0 (many - k)]
  simp [List.drop_drop, show top + k + (many - k) = top + (many - k) + k by omega]
 conv => lhs; rw [e]
 rw [piP_append, piP_append, piP_append, piP_append, piP_hardR, List.append_assoc]
 exact List.perm_append_comm_assoc _ _ _
theorem gone_neg (hTL : lnP T = L) (hn : n < 0) (hm : many = bot + 1 - top) (hk : rollK n (bot + 1 - top) = k) (hkm : k ≤ many) : lnP ((T.drop (top + (many - k))).take k) = rollGone top bot n L := by
 subst hTL
 unfold rollGone rollIn
 rw [if_neg (by omega), if_neg (by omega), hk, ← hm, List.drop_take, List.drop_drop, show many - (many - k) = k by omega, lnP_take, lnP_drop]
theorem left_neg (hTL : lnP T = L) (hn : n < 0) (hm : many = bot + 1 - top) (htb : top ≤ bot) (hk : rollK n (bot + 1 - top) = k) (hkm : k ≤ many) (hF : lnP F = rollFresh k cols q) :
  topHard top (lnP (T.take top) ++ (lnP F ++ lnP (hardR ((T.drop top).take (many - k)) ++ T.drop (top + many)))) = rollL top bot n q cols L := by
 subst hTL
 unfold rollL rollMid rollStay rollIn
 rw [if_neg (by omega), if_neg (by omega), if_neg (by omega), hk, ← hm, hF, List.take_take, Nat.min_eq_left (by omega), lnP_append, lnP_take, lnP_hardR, lnP_take, lnP_drop, lnP_drop, show top + many = bot + 1 by omega]
 simp only [List.append_assoc]
theorem perm_neg (hkm : k ≤ many) : (piP T).Perm (piP ((T.drop (top + (many - k))).take k) ++ (piP (T.take top) ++ piP (hardR ((T.drop top).take (many - k)) ++ T.drop (top + many)))) := by
 have e : T = T.take top ++ ((T.drop top).take (many - k) ++ ((T.drop (top + (many - k))).take k ++ T.drop (top + many))) := by
  conv => lhs; rw [parted T top (many - k), parted (T.drop (top + (many - k))) 0 k]
  simp [List.drop_drop, show top + (many - k) + k = top + many by omega]
 conv => lhs; rw [e]
 rw [piP_append, piP_append, piP_append, piP_append, piP_hardR]
 exact (List.Perm.append_left _ (List.perm_append_comm_assoc _ _ _)).trans (List.perm_append_comm_assoc _ _ _)
end
end Go.Proofs.YtppijfjigcoifaaDoor
