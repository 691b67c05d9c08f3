/-
  Part 5 of the texts on which the proofs of this seat stand: each part says ahead of it what it shows.
-/
import Derived.Test.YtppijfjigcoifaaDoorR4
import Derived.ProofKit
import Derived.OpenShut
import Derived.Deep.Slices
import Derived.Lib.LaidTab
import Derived.ChangeSame
import Derived.Carry
import Derived.Test.YtppijfjigcoifaaDoorCards
import Derived.Test.YtppijfjigcoifaaDoorTie
import Derived.WalkKit
import Derived.Deep.DeepHandedRow
set_option linter.unusedSimpArgs false
set_option linter.unusedVariables false
namespace Go.Proofs.YtppijfjigcoifaaDoor
open Go.RowKit

theorem mkRow_V {cs : List Cell} {c0 : Nat} {r : Int} (h : RowV cs) (hc : c0 < cs.length) : RowV (mkRow c0 r cs) := by
 unfold mkRow
 split
 ·next hb =>
  unfold mkB at hb
  rw [Bool.and_eq_true, decide_eq_true_eq] at hb
  obtain ⟨hb1, hb2, hb3⟩ := bef_facts h hc
  have hm : markOf (cAt cs (befN cs c0)) r = ((markOf (cAt cs (befN cs c0)) r).1, 0) := by rw [← hb.2]
  obtain ⟨k1, k2, k3⟩ := mark_keeps hm
  rw [← mark_put h hb1 hb2 hm]
  refine h.put (mark_holds k3 hm).1 ?_ (by rw [k1]; exact hb3)
  rw [k1]
  rcases ok_width k3 with e | e | e
  ·exact absurd e hb2
  ·exact .inl e
  ·exact .inr e
 ·exact h
theorem rune_of {w : World} {b o : Nat} {c : Cell} (h : cellAt w b o = some c) : w.cell? ⟨b, o, none⟩ = some (.int .i32 c.rune) := by
 have := range_of_cellAt h 0 _ (show (cv c).toList[0]? = some (.int .i32 c.rune) from by simp [cv])
 simpa using this
section
variable {w0 w : World} {rest : List Ob} {p p2 cols : Nat} {L : List Ln} {n r : Int} {q : Pen} {auto ins pend : Bool} {i j : Nat}
set_option maxRecDepth 100000 in
set_option maxHeartbeats 8000000 in
theorem does16_1w (hT : Tabs w0) (hS : Objs w0 w (.grid p 58 cols L :: .grid p2 33 cols L :: rest)) (hc : 0 < cols) (hcm : cols ≤ 1000) (hL : 0 < L.length) (hLm : L.length ≤ 1000) (hR : Rect cols L) (hV : AllV L) (hin : inG i j pend L.length cols = true) (h0 : ¬ wOf r = 0) :
  Calls Tryd.prog 31 #[.pointer (some ⟨p, 0, none⟩), .pointer (some ⟨p2, 0, none⟩), .agg #[.int .i64 ↑i, .int .i64 ↑j, .bool pend], .agg (av16 ⟨1, n, r, q, auto, ins⟩)] w (Does16 w0 p p2 cols L rest i j pend L) := by
 have S0 := Lib.hid hS
 have HT := Lib.hid hT
 have HIN := Lib.hid hin
 have HR := Lib.hid hR
 have HV := Lib.hid hV
 have hing := ingrid_iff.1 hin
 have hi : i < L.length := by omega
 have hj : j < cols := by omega
 obtain ⟨nw, hnw⟩ : ∃ nw, wOf r = nw := ⟨_, rfl⟩
 have HW := Lib.hid hnw
 have HN0 := Lib.hid h0
 rw [hnw] at h0
 have d0 := bne_yes h0
 clear h0
 clear hS hT hin hR hV hnw
 clear hing
 go_enter Tryd.func31, Tryd.ntmps31
 go_upto_region 1 with (fail)
 refine at_objsC (S0.out.alloc3 (c1 := #[.int .i64 ↑i, .int .i64 ↑j, .bool pend]) (t1 := 48) (c2 := av16 ⟨1, n, r, q, auto, ins⟩) (t2 := 56) (c3 := #[.int .i64 0, .int .i64 0, .bool false]) (t3 := 48)) (fun W hW => ?_)
 generalize w.heap.size + 1 + 1 = b8 at hW ⊢
 generalize w.heap.size + 1 = b7 at hW ⊢
 generalize w.heap.size = b6 at hW ⊢
 have S1 := Lib.hid hW
 clear hW S0
 obtain ⟨hx7, hf7, hz7, hr7, hp7⟩ := (S1.out.box (k := 1) rfl).act16
 go_wp2_with fail
 clear hx7 hf7 hz7 hr7 hp7
 refine (width_is HW.out _ (S1.out.tabs HT.out)).mono ?_
 rintro e w1 ⟨rfl, hb⟩
 have S2 := Lib.hid (S1.out.bel hb)
 clear hb S1
 obtain ⟨hx8, hf8, hz8⟩ := (S2.out.box (k := 0) rfl).facts
 obtain ⟨hx7, hf7, hz7, hr7, hp7⟩ := (S2.out.box (k := 1) rfl).act16
 obtain ⟨hx6, hf6, hz6⟩ := (S2.out.box (k := 2) rfl).facts
 go_upto_region 19 with (fail)
 clear hx8 hf8 hz8 hx7 hf7 hz7 hr7 hp7 hx6 hf6 hz6
 clear d0
 have S3 := S2
 clear S2
 refine wp_region_stage (w0 := w0) (os := rest) (by kernel_rfl) (by kernel_rfl) (by kernel_rfl) [(0, 6, [], fun vs => .box b8 48 #[.int .i64 ↑i, .int .i64 ↑j, .bool pend])] [[2], [], [2], [], [1], [3], [0], []] [.box b8 48 #[.int .i64 0, .int .i64 0, .bool false], .box b7 56 (av16 ⟨1, n, r, q, auto, ins⟩), .box b6 48 #[.int .i64 ↑i, .int .i64 ↑j, .bool pend], .grid p 58 cols L, .grid p2 33 cols L] (fun opn u => match opn with | 0 => u = .agg #[.int .i64 ↑i, .int .i64 ↑j, .bool pend] | 1 => u = pt p 0 | 2 => u = .agg #[.int .i64 ↑i, .int .i64 ↑j, .bool pend] | 3 => u = pt b7 2 | 4 => u = .int .i32 r | 5 => u = .bool true | 6 => True | 7 => u = .bool true | _ => True) (fun vs => [.box b8 48 #[.int .i64 ↑i, .int .i64 ↑j, .bool pend], .box b7 56 (av16 ⟨1, n, r, q, auto, ins⟩), .box b6 48 #[.int .i64 ↑i, .int .i64 ↑j, .bool pend], .grid p 58 cols L, .grid p2 33 cols L]) (by kernel_rfl) (fun vs => by rfl) S3.out ?_ ?_
 ·apply sc
  ·intro a w' vs σ hS hl hs hk
   have f6 : a.tmps[6]?.getD undef = .pointer (some ⟨b6, 0, none⟩) := sof hk
   have hx := (hS.box (sg (hs 2 (by decide)))).cell
   exact rp (.agg #[.int .i64 ↑i, .int .i64 ↑j, .bool pend]) (by simp [execOp, Act.eval, f6, go_sem, hx]) hl hs hS
  apply sc
  ·intro a w' vs σ hS hl hs hk
   have f0 : a.tmps[0]?.getD undef = .pointer (some ⟨p, 0, none⟩) := sof hk
   exact rp (pt p 0) (by simp [execOp, Act.eval, f0, go_sem]) hl hs hS
  apply sc
  ·intro a w' vs σ hS hl hs hk
   have f6 : a.tmps[6]?.getD undef = .pointer (some ⟨b6, 0, none⟩) := sof hk
   have hx := (hS.box (sg (hs 2 (by decide)))).cell
   exact rp (.agg #[.int .i64 ↑i, .int .i64 ↑j, .bool pend]) (by simp [execOp, Act.eval, f6, go_sem, hx]) hl hs hS
  apply sc
  ·intro a w' vs σ hS hl hs hk
   have f7 : a.tmps[7]?.getD undef = .pointer (some ⟨b7, 0, none⟩) := sof hk
   exact rp (pt b7 2) (by simp [execOp, Act.eval, f7, go_sem]) hl hs hS
  apply sc
  ·intro a w' vs σ hS hl hs hk
   have f146 : a.tmps[146]?.getD undef = .pointer (some ⟨b7, 2, none⟩) := sf hk 3
   have hx := (hS.box (sg (hs 1 (by decide)))).cell
   exact rp (.int .i32 r) (by simp [execOp, Act.eval, f146, go_sem, hx]) hl hs hS
  apply sc
  ·intro a w' vs σ hS hl hs hk
   have e144 : a.tmps.getD 144 undef = .pointer (some ⟨p, 0, none⟩) := sv hk 1
   have e145 : a.tmps.getD 145 undef = .agg #[.int .i64 ↑i, .int .i64 ↑j, .bool pend] := sv hk 2
   have e147 : a.tmps.getD 147 undef = .int .i32 r := sv hk 4
   exact ro_call (f := 29) (wanted_none rfl) rfl (by simp only [List.map_toArray, List.map_cons, List.map_nil, Act.eval, e144, e145, e147] <;> rfl) (fun _ _ => by kernel_rfl) ((marks_bad HT.out hS (k := 3) (sg (hs 3 (by decide))) hc hcm hL HIN.out HN0.out).mono fun e w2 ⟨h1, h2⟩ => ⟨_, h1, sp_same (by kernel_rfl) hl hs h2 rfl, trivial⟩)
  apply sc
  ·intro a w' vs σ hS hl hs hk
   have f8 : a.tmps[8]?.getD undef = .pointer (some ⟨b8, 0, none⟩) := sof hk
   have f143 : a.tmps[143]?.getD undef = .agg #[.int .i64 ↑i, .int .i64 ↑j, .bool pend] := sf hk 0
   have h1 : σ[0]? = some (.box b8 48 #[.int .i64 0, .int .i64 0, .bool false]) := hs 0 (by decide)
   obtain ⟨hx, hf, hz⟩ := (hS.box (sg h1)).facts
   exact rstep_store (w2 := ((w'.setCell ⟨b8, 0, none⟩ (.int .i64 ↑i)).setCell ⟨b8, 1, none⟩ (.int .i64 ↑j)).setCell ⟨b8, 2, none⟩ (.bool pend)) (wanted_none rfl) rfl (by simp [execOp, Act.eval, f8, f143, hx, hf, hz, go_sem]) (sp_set 0 (.box b8 48 #[.int .i64 ↑i, .int .i64 ↑j, .bool pend]) (by kernel_rfl) (by simp) (by decide) hl hs (by rfl) (hS.setCur 0 (sg h1)) trivial) trivial
  apply sc
  ·intro a w' vs σ hS hl hs hk
   have f148 : a.tmps[148]?.getD undef = .bool true := sf hk 5
   exact rp (.bool true) (by simp [execOp, Act.eval, f148, go_sem]) hl hs hS
  exact SSteps.nil
 ·intro vs w' hS hv
  have q0 : vs 0 = _ := hv 0 (by decide)
  have q1 : vs 1 = _ := hv 1 (by decide)
  have q2 : vs 2 = _ := hv 2 (by decide)
  have q3 : vs 3 = _ := hv 3 (by decide)
  have q4 : vs 4 = _ := hv 4 (by decide)
  have q5 : vs 5 = _ := hv 5 (by decide)
  have q7 : vs 7 = _ := hv 7 (by decide)
  have S2 := Lib.hid hS
  simp only [putL, Act.put, Nat.zero_add, Nat.reduceAdd, List.setIfInBounds_toArray, List.set_cons_succ, List.set_cons_zero, q0, q1, q2, q3, q4, q5, q7]
  clear hS hv q0 q1 q2 q3 q4 q5 q7
  clear S3
  have SF := S2
  clear S2
  go_wp2_with fail
  refine bodyPost_ret (results_ct Tryd.results31 _ _ b8 _ _ rfl (SF.out.box (k := 0) rfl) Tryd.underlying48 rfl pcursor_size) rfl ?_
  exact ⟨HIN.out, rfl, HR.out, HV.out, rfl, SF.out.tail.tail.tail⟩
set_option maxRecDepth 100000 in
set_option maxHeartbeats 8000000 in
theorem does16_1f (hT : Tabs w0) (hS : Objs w0 w (.grid p 58 cols L :: .grid p2 33 cols L :: rest)) (hc : 0 < cols) (hcm : cols ≤ 1000) (hL : 0 < L.length) (hLm : L.length ≤ 1000) (hR : Rect cols L) (hV : AllV L) (hin : inG i 0 false L.length cols = true) (h0 : wOf r = 0) :
  Calls Tryd.prog 31 #[.pointer (some ⟨p, 0, none⟩), .pointer (some ⟨p2, 0, none⟩), .agg #[.int .i64 ↑i, .int .i64 0, .bool false], .agg (av16 ⟨1, n, r, q, auto, ins⟩)] w (Does16 w0 p p2 cols L rest i 0 false L) := by
 have S0 := Lib.hid hS
 have HT := Lib.hid hT
 have HIN := Lib.hid hin
 have HR := Lib.hid hR
 have HV := Lib.hid hV
 have hing := ingrid_iff.1 hin
 have hi : i < L.length := by omega
 have HW := Lib.hid h0
 clear hS hT hin hR hV h0
 clear hing
 go_enter Tryd.func31, Tryd.ntmps31
 go_upto_region 1 with (fail)
 refine at_objsC (S0.out.alloc3 (c1 := #[.int .i64 ↑i, .int .i64 0, .bool false]) (t1 := 48) (c2 := av16 ⟨1, n, r, q, auto, ins⟩) (t2 := 56) (c3 := #[.int .i64 0, .int .i64 0, .bool false]) (t3 := 48)) (fun W hW => ?_)
 generalize w.heap.size + 1 + 1 = b8 at hW ⊢
 generalize w.heap.size + 1 = b7 at hW ⊢
 generalize w.heap.size = b6 at hW ⊢
 have S1 := Lib.hid hW
 clear hW S0
 obtain ⟨hx7, hf7, hz7, hr7, hp7⟩ := (S1.out.box (k := 1) rfl).act16
 go_wp2_with fail
 clear hx7 hf7 hz7 hr7 hp7
 refine (width_is HW.out _ (S1.out.tabs HT.out)).mono ?_
 rintro e w1 ⟨rfl, hb⟩
 have S2 := Lib.hid (S1.out.bel hb)
 clear hb S1
 obtain ⟨hx8, hf8, hz8⟩ := (S2.out.box (k := 0) rfl).facts
 obtain ⟨hx7, hf7, hz7, hr7, hp7⟩ := (S2.out.box (k := 1) rfl).act16
 obtain ⟨hx6, hf6, hz6⟩ := (S2.out.box (k := 2) rfl).facts
 go_wp2_with fail
 clear hx8 hf8 hz8 hx7 hf7 hz7 hr7 hp7 hx6 hf6 hz6
 refine (show Calls Tryd.prog 68 #[.pointer (some ⟨p2, 0, none⟩), .agg #[.int .i64 ↑i, .int .i64 0, .bool false]] _ _ from r16Before_front ↑i S2.out (k := 4) rfl).mono ?_
 rintro e w2 ⟨rfl, hS⟩
 have S3 := Lib.hid hS
 clear hS S2
 go_upto_region 21 with (fail)
 refine wp_region_below (by kernel_rfl) (by kernel_rfl) ?_
 repeat (go_big_quiet_step (fail))
 refine wpQuiet_nil ?_
 intro w3 hb3
 have S4 := Lib.hid (S3.out.bel hb3)
 clear hb3 S3
 go_upto_region 22 with (fail)
 refine wp_region_stage (w0 := w0) (os := rest) (by kernel_rfl) (by kernel_rfl) (by kernel_rfl) [(0, 6, [], fun vs => .box b8 48 #[.int .i64 ↑i, .int .i64 0, .bool false])] [[2], [], [2], [], [1], [3], [0], []] [.box b8 48 #[.int .i64 0, .int .i64 0, .bool false], .box b7 56 (av16 ⟨1, n, r, q, auto, ins⟩), .box b6 48 #[.int .i64 ↑i, .int .i64 0, .bool false], .grid p 58 cols L, .grid p2 33 cols L] (fun opn u => match opn with | 0 => u = .agg #[.int .i64 ↑i, .int .i64 0, .bool false] | 1 => u = pt p 0 | 2 => u = .agg #[.int .i64 ↑i, .int .i64 0, .bool false] | 3 => u = pt b7 2 | 4 => u = .int .i32 r | 5 => u = .bool true | 6 => True | 7 => u = .bool true | _ => True) (fun vs => [.box b8 48 #[.int .i64 ↑i, .int .i64 0, .bool false], .box b7 56 (av16 ⟨1, n, r, q, auto, ins⟩), .box b6 48 #[.int .i64 ↑i, .int .i64 0, .bool false], .grid p 58 cols L, .grid p2 33 cols L]) (by kernel_rfl) (fun vs => by rfl) S4.out ?_ ?_
 ·apply sc
  ·intro a w' vs σ hS hl hs hk
   have f6 : a.tmps[6]?.getD undef = .pointer (some ⟨b6, 0, none⟩) := sof hk
   have hx := (hS.box (sg (hs 2 (by decide)))).cell
   exact rp (.agg #[.int .i64 ↑i, .int .i64 0, .bool false]) (by simp [execOp, Act.eval, f6, go_sem, hx]) hl hs hS
  apply sc
  ·intro a w' vs σ hS hl hs hk
   have f0 : a.tmps[0]?.getD undef = .pointer (some ⟨p, 0, none⟩) := sof hk
   exact rp (pt p 0) (by simp [execOp, Act.eval, f0, go_sem]) hl hs hS
  apply sc
  ·intro a w' vs σ hS hl hs hk
   have f6 : a.tmps[6]?.getD undef = .pointer (some ⟨b6, 0, none⟩) := sof hk
   have hx := (hS.box (sg (hs 2 (by decide)))).cell
   exact rp (.agg #[.int .i64 ↑i, .int .i64 0, .bool false]) (by simp [execOp, Act.eval, f6, go_sem, hx]) hl hs hS
  apply sc
  ·intro a w' vs σ hS hl hs hk
   have f7 : a.tmps[7]?.getD undef = .pointer (some ⟨b7, 0, none⟩) := sof hk
   exact rp (pt b7 2) (by simp [execOp, Act.eval, f7, go_sem]) hl hs hS
  apply sc
  ·intro a w' vs σ hS hl hs hk
   have f173 : a.tmps[173]?.getD undef = .pointer (some ⟨b7, 2, none⟩) := sf hk 3
   have hx := (hS.box (sg (hs 1 (by decide)))).cell
   exact rp (.int .i32 r) (by simp [execOp, Act.eval, f173, go_sem, hx]) hl hs hS
  apply sc
  ·intro a w' vs σ hS hl hs hk
   have e171 : a.tmps.getD 171 undef = .pointer (some ⟨p, 0, none⟩) := sv hk 1
   have e172 : a.tmps.getD 172 undef = .agg #[.int .i64 ↑i, .int .i64 0, .bool false] := sv hk 2
   have e174 : a.tmps.getD 174 undef = .int .i32 r := sv hk 4
   exact ro_call (f := 29) (wanted_none rfl) rfl (by simp only [List.map_toArray, List.map_cons, List.map_nil, Act.eval, e171, e172, e174] <;> rfl) (fun _ _ => by kernel_rfl) ((marks_front HT.out hS (k := 3) (sg (hs 3 (by decide))) hc hcm hL HIN.out HW.out).mono fun e w2 ⟨h1, h2⟩ => ⟨_, h1, sp_same (by kernel_rfl) hl hs h2 rfl, trivial⟩)
  apply sc
  ·intro a w' vs σ hS hl hs hk
   have f8 : a.tmps[8]?.getD undef = .pointer (some ⟨b8, 0, none⟩) := sof hk
   have f170 : a.tmps[170]?.getD undef = .agg #[.int .i64 ↑i, .int .i64 0, .bool false] := sf hk 0
   have h1 : σ[0]? = some (.box b8 48 #[.int .i64 0, .int .i64 0, .bool false]) := hs 0 (by decide)
   obtain ⟨hx, hf, hz⟩ := (hS.box (sg h1)).facts
   exact rstep_store (w2 := ((w'.setCell ⟨b8, 0, none⟩ (.int .i64 ↑i)).setCell ⟨b8, 1, none⟩ (.int .i64 0)).setCell ⟨b8, 2, none⟩ (.bool false)) (wanted_none rfl) rfl (by simp [execOp, Act.eval, f8, f170, hx, hf, hz, go_sem]) (sp_set 0 (.box b8 48 #[.int .i64 ↑i, .int .i64 0, .bool false]) (by kernel_rfl) (by simp) (by decide) hl hs (by rfl) (hS.setCur 0 (sg h1)) trivial) trivial
  apply sc
  ·intro a w' vs σ hS hl hs hk
   have f175 : a.tmps[175]?.getD undef = .bool true := sf hk 5
   exact rp (.bool true) (by simp [execOp, Act.eval, f175, go_sem]) hl hs hS
  exact SSteps.nil
 ·intro vs w' hS hv
  have q0 : vs 0 = _ := hv 0 (by decide)
  have q1 : vs 1 = _ := hv 1 (by decide)
  have q2 : vs 2 = _ := hv 2 (by decide)
  have q3 : vs 3 = _ := hv 3 (by decide)
  have q4 : vs 4 = _ := hv 4 (by decide)
  have q5 : vs 5 = _ := hv 5 (by decide)
  have q7 : vs 7 = _ := hv 7 (by decide)
  have S2 := Lib.hid hS
  simp only [putL, Act.put, Nat.zero_add, Nat.reduceAdd, List.setIfInBounds_toArray, List.set_cons_succ, List.set_cons_zero, q0, q1, q2, q3, q4, q5, q7]
  clear hS hv q0 q1 q2 q3 q4 q5 q7
  clear S4
  have SF := S2
  clear S2
  go_wp2_with fail
  refine bodyPost_ret (results_ct Tryd.results31 _ _ b8 _ _ rfl (SF.out.box (k := 0) rfl) Tryd.underlying48 rfl pcursor_size) rfl ?_
  exact ⟨HIN.out, rfl, HR.out, HV.out, rfl, SF.out.tail.tail.tail⟩
set_option maxRecDepth 100000 in
set_option maxHeartbeats 8000000 in
theorem does16_1a {c0 : Nat} (hT : Tabs w0) (hS : Objs w0 w (.grid p 58 cols L :: .grid p2 33 cols L :: rest)) (hc : 0 < cols) (hcm : cols ≤ 1000) (hL : 0 < L.length) (hLm : L.length ≤ 1000) (hR : Rect cols L) (hV : AllV L) (hin : inG i j pend L.length cols = true) (h0 : wOf r = 0) (hcol : (pend = true ∧ (j : Int) = (c0 : Int)) ∨ (pend = false ∧ (j : Int) = (c0 : Int) + 1)) :
  Calls Tryd.prog 31 #[.pointer (some ⟨p, 0, none⟩), .pointer (some ⟨p2, 0, none⟩), .agg #[.int .i64 ↑i, .int .i64 ↑j, .bool pend], .agg (av16 ⟨1, n, r, q, auto, ins⟩)] w (Does16 w0 p p2 cols L rest i j pend (rowMod i (mkRow c0 r) L)) := by
 have S0 := Lib.hid hS
 have HT := Lib.hid hT
 have HIN := Lib.hid hin
 have HR := Lib.hid hR
 have HV := Lib.hid hV
 have hing := ingrid_iff.1 hin
 have hi : i < L.length := by omega
 have hj : j < cols := by omega
 have HW := Lib.hid h0
 obtain ⟨l, hl⟩ := get_of hi
 have hVl : RowV l.1 := hV l (List.mem_of_getElem? hl)
 have hll : l.1.length = cols := hR.at_ hl
 have hj0 : c0 < cols := by rcases hcol with h | h <;> omega
 have HL := Lib.hid hl
 have HVL := Lib.hid hVl
 have HCOL := Lib.hid hcol
 obtain ⟨c1, hc1e⟩ : ∃ c1, befN l.1 c0 = c1 := ⟨_, rfl⟩
 have HC1 := Lib.hid hc1e
 obtain ⟨x1, hx1⟩ : ∃ x1, cAt l.1 c1 = x1 := ⟨_, rfl⟩
 obtain ⟨hc1, hw1, hf1⟩ := bef_facts hVl (c := c0) (by omega)
 rw [hc1e] at hc1
 have HX1 := Lib.hid (show l.1[c1]? = some x1 by rw [← hx1]; exact cAt_get hc1)
 obtain ⟨y, er, hm⟩ : ∃ y er, markOf x1 r = (y, er) := ⟨_, _, rfl⟩
 have HMK := Lib.hid hm
 have HB := Lib.hid (show mkB l.1 c0 r = (!decide (x1.rune = 0) && decide (er = 0)) by unfold mkB; rw [hc1e, hx1, hm])
 have HM := Lib.hid (show mkRow c0 r l.1 = if mkB l.1 c0 r = true then l.1.set c1 y else l.1 by unfold mkRow; rw [hc1e, hx1, hm])
 obtain ⟨LN, hLN⟩ : ∃ LN, rowMod i (mkRow c0 r) L = LN := ⟨_, rfl⟩
 have HLN0 := Lib.hid hLN
 rw [hLN]
 have HK1 := Lib.hid (show LN.length = L.length by rw [← hLN]; exact rowMod_length _ _ _)
 have HK2 := Lib.hid (show Rect cols LN by rw [← hLN]; exact hR.rowMod i (fun cs h => by rw [mkRow_length]; exact h))
 have HK3 := Lib.hid (show AllV LN by rw [← hLN]; exact hV.rowMod i (fun l2 h2 => mkRow_V (hV l2 h2) (by rw [hR l2 h2]; exact hj0)))
 have HI0 := Lib.hid hi
 have HLL := Lib.hid hll
 clear hS hT hin hR hV h0 hl hVl hcol hc1e hx1 hw1 hf1 hm hLN hing hll
 go_enter Tryd.func31, Tryd.ntmps31
 go_upto_region 1 with (fail)
 refine at_objsC (S0.out.alloc3 (c1 := #[.int .i64 ↑i, .int .i64 ↑j, .bool pend]) (t1 := 48) (c2 := av16 ⟨1, n, r, q, auto, ins⟩) (t2 := 56) (c3 := #[.int .i64 0, .int .i64 0, .bool false]) (t3 := 48)) (fun W hW => ?_)
 generalize w.heap.size + 1 + 1 = b8 at hW ⊢
 generalize w.heap.size + 1 = b7 at hW ⊢
 generalize w.heap.size = b6 at hW ⊢
 have S1 := Lib.hid hW
 clear hW S0
 obtain ⟨hx7, hf7, hz7, hr7, hp7⟩ := (S1.out.box (k := 1) rfl).act16
 go_wp2_with fail
 clear hx7 hf7 hz7 hr7 hp7
 refine (width_is HW.out _ (S1.out.tabs HT.out)).mono ?_
 rintro e w1 ⟨rfl, hb⟩
 have S2 := Lib.hid (S1.out.bel hb)
 clear hb S1
 obtain ⟨hx8, hf8, hz8⟩ := (S2.out.box (k := 0) rfl).facts
 obtain ⟨hx7, hf7, hz7, hr7, hp7⟩ := (S2.out.box (k := 1) rfl).act16
 obtain ⟨hx6, hf6, hz6⟩ := (S2.out.box (k := 2) rfl).facts
 go_wp2_with fail
 clear hx8 hf8 hz8 hx7 hf7 hz7 hr7 hp7 hx6 hf6 hz6
 refine (show Calls Tryd.prog 68 #[.pointer (some ⟨p2, 0, none⟩), .agg #[.int .i64 ↑i, .int .i64 ↑j, .bool pend]] _ _ from (by have hcon := r16Before_at (c0 := c0) ↑j pend S2.out (k := 4) rfl HR.out hcm hj0 HCOL.out HL.out; rw [HC1.out] at hcon; exact hcon)).mono ?_
 rintro e w2 ⟨rfl, hS⟩
 have S3 := Lib.hid (show Objs w0 w2 (.grid p2 33 cols L :: .box b8 48 #[.int .i64 0, .int .i64 0, .bool false] :: .box b7 56 (av16 ⟨1, n, r, q, auto, ins⟩) :: .box b6 48 #[.int .i64 ↑i, .int .i64 ↑j, .bool pend] :: .grid p 58 cols L :: rest) from (Objs.pick (σ := [_, _, _, _, _]) (os := rest) hS [some 4, some 0, some 1, some 2, some 3] (by decide) rfl))
 clear hS S2
 obtain ⟨v, b, hS3⟩ := S3.out.openAt HL.out
 obtain ⟨A, cg, rfl, -⟩ := hS3.cellsRd (k := 0) rfl
 obtain ⟨g, rfl, -, -, -, -⟩ := (hS3.own (k := 0) rfl).head (by omega)
 obtain ⟨gr, cr, rfl, h1, h2, h3, h4, h5, h6, h7⟩ := hS3.linesxRd (k := 1) rfl
 obtain ⟨hx2, hf2, hz2⟩ := (hS3.box (k := 2) rfl).facts
 obtain ⟨hx6, hf6, hz6⟩ := (hS3.box (k := 5) rfl).facts
 have hrn := (cells_facts hS3 (k := 0) rfl (i := c1) (c := x1) HX1.out)
 have hru := rune_of hrn.2.2.1
 have hzg := hrn.2.2.2.2
 have hlen2 : L.length ≤ 9223372036854775807 := by unfold maxLen at h2; omega
 have S4 := Lib.hid hS3
 clear hS3 h1 h2 h6 S3 hrn
 have hlt : decide ((c1 : Int) < 0) = false := decide_eq_false (by omega)
 by_cases hr : x1.rune = 0
 ·have HMB := Lib.hid (show mkB l.1 c0 r = false by rw [HB.out]; simp [hr])
  have HLN := Lib.hid (show rowMod i (mkRow c0 r) L = L by rw [rowMod_some HL.out, HM.out, HMB.out, if_neg (by simp), show ((l.1, l.2) : Ln) = l from rfl, set_self HL.out])
  have HLNL := Lib.hid (show LN = L by rw [← HLN0.out]; exact HLN.out)
  have hbr := beq_yes hr
  clear hr
  go_upto_region 21 with (fail)
  refine wp_region_below (by kernel_rfl) (by kernel_rfl) ?_
  repeat (go_big_quiet_step (fail))
  refine wpQuiet_nil ?_
  intro w3 hb3
  have S5 := Lib.hid (S4.out.bel hb3)
  clear hb3 S4 hx2 hf2 hz2 hx6 hf6 hz6 hru hzg hbr h3 h4 h5 h7 hlt
  go_upto_region 22 with (fail)
  refine wp_region_stage (w0 := w0) (os := rest) (by kernel_rfl) (by kernel_rfl) (by kernel_rfl) [(6, 5, [], fun vs => .grid p 58 cols L), (3, 6, [], fun vs => .box b8 48 #[.int .i64 ↑i, .int .i64 ↑j, .bool pend])] [[5], [], [5], [], [4], [6], [3], []] [.cells (.slice (some ⟨g, 0, none⟩) l.1.length cg) l.1, .linesx (.slice (some ⟨gr, 0, none⟩) L.length cr) L i (.slice (some ⟨g, 0, none⟩) l.1.length cg), .box p2 33 #[.int .i64 ↑cols, .slice (some ⟨gr, 0, none⟩) L.length cr], .box b8 48 #[.int .i64 0, .int .i64 0, .bool false], .box b7 56 (av16 ⟨1, n, r, q, auto, ins⟩), .box b6 48 #[.int .i64 ↑i, .int .i64 ↑j, .bool pend], .grid p 58 cols L] (fun opn u => match opn with | 0 => u = .agg #[.int .i64 ↑i, .int .i64 ↑j, .bool pend] | 1 => u = pt p 0 | 2 => u = .agg #[.int .i64 ↑i, .int .i64 ↑j, .bool pend] | 3 => u = pt b7 2 | 4 => u = .int .i32 r | 5 => u = .bool true | 6 => True | 7 => u = .bool true | _ => True) (fun vs => [.cells (.slice (some ⟨g, 0, none⟩) l.1.length cg) l.1, .linesx (.slice (some ⟨gr, 0, none⟩) L.length cr) L i (.slice (some ⟨g, 0, none⟩) l.1.length cg), .box p2 33 #[.int .i64 ↑cols, .slice (some ⟨gr, 0, none⟩) L.length cr], .box b8 48 #[.int .i64 ↑i, .int .i64 ↑j, .bool pend], .box b7 56 (av16 ⟨1, n, r, q, auto, ins⟩), .box b6 48 #[.int .i64 ↑i, .int .i64 ↑j, .bool pend], .grid p 58 cols L]) (by kernel_rfl) (fun vs => by rfl) S5.out ?_ ?_
  ·apply sc
   ·intro a w' vs σ hS hl hs hk
    have f6 : a.tmps[6]?.getD undef = .pointer (some ⟨b6, 0, none⟩) := sof hk
    have hx := (hS.box (sg (hs 5 (by decide)))).cell
    exact rp (.agg #[.int .i64 ↑i, .int .i64 ↑j, .bool pend]) (by simp [execOp, Act.eval, f6, go_sem, hx]) hl hs hS
   apply sc
   ·intro a w' vs σ hS hl hs hk
    have f0 : a.tmps[0]?.getD undef = .pointer (some ⟨p, 0, none⟩) := sof hk
    exact rp (pt p 0) (by simp [execOp, Act.eval, f0, go_sem]) hl hs hS
   apply sc
   ·intro a w' vs σ hS hl hs hk
    have f6 : a.tmps[6]?.getD undef = .pointer (some ⟨b6, 0, none⟩) := sof hk
    have hx := (hS.box (sg (hs 5 (by decide)))).cell
    exact rp (.agg #[.int .i64 ↑i, .int .i64 ↑j, .bool pend]) (by simp [execOp, Act.eval, f6, go_sem, hx]) hl hs hS
   apply sc
   ·intro a w' vs σ hS hl hs hk
    have f7 : a.tmps[7]?.getD undef = .pointer (some ⟨b7, 0, none⟩) := sof hk
    exact rp (pt b7 2) (by simp [execOp, Act.eval, f7, go_sem]) hl hs hS
   apply sc
   ·intro a w' vs σ hS hl hs hk
    have f173 : a.tmps[173]?.getD undef = .pointer (some ⟨b7, 2, none⟩) := sf hk 3
    have hx := (hS.box (sg (hs 4 (by decide)))).cell
    exact rp (.int .i32 r) (by simp [execOp, Act.eval, f173, go_sem, hx]) hl hs hS
   apply sc
   ·intro a w' vs σ hS hl hs hk
    have e171 : a.tmps.getD 171 undef = .pointer (some ⟨p, 0, none⟩) := sv hk 1
    have e172 : a.tmps.getD 172 undef = .agg #[.int .i64 ↑i, .int .i64 ↑j, .bool pend] := sv hk 2
    have e174 : a.tmps.getD 174 undef = .int .i32 r := sv hk 4
    have hcon := marks_at HT.out hS (k := 6) (sg (hs 6 (by decide))) hc hcm hL HR.out HIN.out HW.out HCOL.out HL.out HVL.out
    rw [HMB.out, HLN.out] at hcon
    exact ro_call (f := 29) (wanted_none rfl) rfl (by simp only [List.map_toArray, List.map_cons, List.map_nil, Act.eval, e171, e172, e174] <;> rfl) (fun _ _ => by kernel_rfl) ((hcon).mono fun e w2 ⟨h1, h2⟩ => ⟨_, h1, sp_set 6 (.grid p 58 cols L) (by kernel_rfl) (by simp) (by decide) hl hs (by rfl) h2 rfl, trivial⟩)
   apply sc
   ·intro a w' vs σ hS hl hs hk
    have f8 : a.tmps[8]?.getD undef = .pointer (some ⟨b8, 0, none⟩) := sof hk
    have f170 : a.tmps[170]?.getD undef = .agg #[.int .i64 ↑i, .int .i64 ↑j, .bool pend] := sf hk 0
    have h1 : σ[3]? = some (.box b8 48 #[.int .i64 0, .int .i64 0, .bool false]) := hs 3 (by decide)
    obtain ⟨hx, hf, hz⟩ := (hS.box (sg h1)).facts
    exact rstep_store (w2 := ((w'.setCell ⟨b8, 0, none⟩ (.int .i64 ↑i)).setCell ⟨b8, 1, none⟩ (.int .i64 ↑j)).setCell ⟨b8, 2, none⟩ (.bool pend)) (wanted_none rfl) rfl (by simp [execOp, Act.eval, f8, f170, hx, hf, hz, go_sem]) (sp_set 3 (.box b8 48 #[.int .i64 ↑i, .int .i64 ↑j, .bool pend]) (by kernel_rfl) (by simp) (by decide) hl hs (by rfl) (hS.setCur 3 (sg h1)) trivial) trivial
   apply sc
   ·intro a w' vs σ hS hl hs hk
    have f175 : a.tmps[175]?.getD undef = .bool true := sf hk 5
    exact rp (.bool true) (by simp [execOp, Act.eval, f175, go_sem]) hl hs hS
   exact SSteps.nil
  ·intro vs w' hS hv
   have q0 : vs 0 = _ := hv 0 (by decide)
   have q1 : vs 1 = _ := hv 1 (by decide)
   have q2 : vs 2 = _ := hv 2 (by decide)
   have q3 : vs 3 = _ := hv 3 (by decide)
   have q4 : vs 4 = _ := hv 4 (by decide)
   have q5 : vs 5 = _ := hv 5 (by decide)
   have q7 : vs 7 = _ := hv 7 (by decide)
   have S2 := Lib.hid hS
   simp only [putL, Act.put, Nat.zero_add, Nat.reduceAdd, List.setIfInBounds_toArray, List.set_cons_succ, List.set_cons_zero, q0, q1, q2, q3, q4, q5, q7]
   clear hS hv q0 q1 q2 q3 q4 q5 q7
   clear S5
   have SF := S2
   clear S2
   go_wp2_with fail
   refine bodyPost_ret (results_ct Tryd.results31 _ _ b8 _ _ rfl (SF.out.box (k := 3) rfl) Tryd.underlying48 rfl pcursor_size) rfl ?_
   have hfin := SF.out.closeAt HL.out
   rw [HLNL.out]
   exact ⟨HIN.out, rfl, HR.out, HV.out, rfl, by rw [show L.set i (l.1, l.2) = L from set_self HL.out] at hfin; exact (Objs.pick (σ := [_, _, _, _, _]) (os := rest) hfin [some 4, some 0] (by decide) rfl)⟩
 ·have hbr := beq_no hr
  go_upto_region 21 with (fail)
  refine wp_region_below (by kernel_rfl) (by kernel_rfl) ?_
  repeat (go_big_quiet_step (fail))
  refine wpQuiet_nil ?_
  intro w3 hb3
  have S5 := Lib.hid (S4.out.bel hb3)
  clear hb3 S4 hx2 hf2 hz2 hx6 hf6 hz6 hru hzg hbr h3 h4 h5 h7 hlt
  go_upto_region 23 with (fail)
  have hi0 : (0 : Int) ≤ (i : Int) := by omega
  have hi1 : (i : Int) < (L.length : Int) := by have := HI0.out; omega
  have hj0' : (0 : Int) ≤ (c1 : Int) := by omega
  have hj1 : (c1 : Int) < (l.1.length : Int) := by omega
  refine wp_region_stage (w0 := w0) (os := rest) (by kernel_rfl) (by kernel_rfl) (by kernel_rfl) [(0, 18, [18], fun vs => .box (blkOf (vs 18)) 71 (cv cell0)), (0, 19, [18], fun vs => .box (blkOf (vs 18)) 71 (cv y))] [[], [], [], [3], [], [6], [], [], [2], [], [], [1], [], [5], [], [], [], [], [0], [0], []] [.none, .cells (.slice (some ⟨g, 0, none⟩) l.1.length cg) l.1, .linesx (.slice (some ⟨gr, 0, none⟩) L.length cr) L i (.slice (some ⟨g, 0, none⟩) l.1.length cg), .box p2 33 #[.int .i64 ↑cols, .slice (some ⟨gr, 0, none⟩) L.length cr], .box b8 48 #[.int .i64 0, .int .i64 0, .bool false], .box b7 56 (av16 ⟨1, n, r, q, auto, ins⟩), .box b6 48 #[.int .i64 ↑i, .int .i64 ↑j, .bool pend], .grid p 58 cols L] (fun opn u => match opn with | 0 => u = pt p2 0 | 1 => u = pt p2 0 | 2 => u = pt p2 1 | 3 => u = .slice (some ⟨gr, 0, none⟩) L.length cr | 4 => u = pt b6 0 | 5 => u = .int .i64 ↑i | 6 => u = pt gr (i * 2) | 7 => u = pt gr (i * 2) | 8 => u = .slice (some ⟨g, 0, none⟩) l.1.length cg | 9 => u = .int .i64 ↑c1 | 10 => u = pt g (c1 * 16) | 11 => u = .agg (cv x1) | 12 => u = pt b7 2 | 13 => u = .int .i32 r | 14 => u = .tuple #[.agg (cv y), .int .i64 er] | 15 => u = .tuple #[.agg (cv y), .int .i64 er] | 16 => u = .agg (cv y) | 17 => u = .int .i64 er | 18 => ∃ g, u = pt g 0 | 19 => True | 20 => u = .int .i64 er | _ => True) (fun vs => [.box (blkOf (vs 18)) 71 (cv y), .cells (.slice (some ⟨g, 0, none⟩) l.1.length cg) l.1, .linesx (.slice (some ⟨gr, 0, none⟩) L.length cr) L i (.slice (some ⟨g, 0, none⟩) l.1.length cg), .box p2 33 #[.int .i64 ↑cols, .slice (some ⟨gr, 0, none⟩) L.length cr], .box b8 48 #[.int .i64 0, .int .i64 0, .bool false], .box b7 56 (av16 ⟨1, n, r, q, auto, ins⟩), .box b6 48 #[.int .i64 ↑i, .int .i64 ↑j, .bool pend], .grid p 58 cols L]) (by kernel_rfl) (fun vs => by rfl) S5.out.pad ?_ ?_
  ·apply sc
   ·intro a w' vs σ hS hl hs hk
    have f1 : a.tmps[1]?.getD undef = .pointer (some ⟨p2, 0, none⟩) := sof hk
    exact rp (pt p2 0) (by simp [execOp, Act.eval, f1, go_sem]) hl hs hS
   apply sc
   ·intro a w' vs σ hS hl hs hk
    have f177 : a.tmps[177]?.getD undef = .pointer (some ⟨p2, 0, none⟩) := sf hk 0
    exact rp (pt p2 0) (by simp [execOp, Act.eval, f177, go_sem]) hl hs hS
   apply sc
   ·intro a w' vs σ hS hl hs hk
    have f178 : a.tmps[178]?.getD undef = .pointer (some ⟨p2, 0, none⟩) := sf hk 1
    exact rp (pt p2 1) (by simp [execOp, Act.eval, f178, go_sem]) hl hs hS
   apply sc
   ·intro a w' vs σ hS hl hs hk
    have f179 : a.tmps[179]?.getD undef = .pointer (some ⟨p2, 1, none⟩) := sf hk 2
    have hx := (hS.box (sg (hs 3 (by decide)))).cell
    exact rp (.slice (some ⟨gr, 0, none⟩) L.length cr) (by simp [execOp, Act.eval, f179, go_sem, hx]) hl hs hS
   apply sc
   ·intro a w' vs σ hS hl hs hk
    have f6 : a.tmps[6]?.getD undef = .pointer (some ⟨b6, 0, none⟩) := sof hk
    exact rp (pt b6 0) (by simp [execOp, Act.eval, f6, go_sem]) hl hs hS
   apply sc
   ·intro a w' vs σ hS hl hs hk
    have f181 : a.tmps[181]?.getD undef = .pointer (some ⟨b6, 0, none⟩) := sf hk 4
    have hx := (hS.box (sg (hs 6 (by decide)))).cell
    exact rp (.int .i64 ↑i) (by simp [execOp, Act.eval, f181, go_sem, hx]) hl hs hS
   apply sc
   ·intro a w' vs σ hS hl hs hk
    have f180 : a.tmps[180]?.getD undef = .slice (some ⟨gr, 0, none⟩) L.length cr := sf hk 3
    have f182 : a.tmps[182]?.getD undef = .int .i64 ↑i := sf hk 5
    exact rp (pt gr (i * 2)) (by simp [execOp, Act.eval, f180, f182, go_sem, hi0, hi1]) hl hs hS
   apply sc
   ·intro a w' vs σ hS hl hs hk
    have f183 : a.tmps[183]?.getD undef = .pointer (some ⟨gr, i * 2, none⟩) := sf hk 6
    exact rp (pt gr (i * 2)) (by simp [execOp, Act.eval, f183, go_sem]) hl hs hS
   apply sc
   ·intro a w' vs σ hS hl hs hk
    have f184 : a.tmps[184]?.getD undef = .pointer (some ⟨gr, i * 2, none⟩) := sf hk 7
    obtain ⟨g', c', e', -, -, -, -, hx, -, -⟩ := hS.linesxRd (sg (hs 2 (by decide)))
    simp only [Value.slice.injEq, Option.some.injEq, Addr.mk.injEq, and_true, true_and] at e'
    obtain ⟨rfl, rfl⟩ := e'
    exact rp (.slice (some ⟨g, 0, none⟩) l.1.length cg) (by simp [execOp, Act.eval, f184, go_sem, hx]) hl hs hS
   apply sc
   ·intro a w' vs σ hS hl hs hk
    have f16 : a.tmps[16]?.getD undef = .int .i64 ↑c1 := sof hk
    exact rp (.int .i64 ↑c1) (by simp [execOp, Act.eval, f16, go_sem]) hl hs hS
   apply sc
   ·intro a w' vs σ hS hl hs hk
    have f185 : a.tmps[185]?.getD undef = .slice (some ⟨g, 0, none⟩) l.1.length cg := sf hk 8
    have f186 : a.tmps[186]?.getD undef = .int .i64 ↑c1 := sf hk 9
    exact rp (pt g (c1 * 16)) (by simp [execOp, Act.eval, f185, f186, go_sem, hj0', hj1]) hl hs hS
   apply sc
   ·intro a w' vs σ hS hl hs hk
    have f187 : a.tmps[187]?.getD undef = .pointer (some ⟨g, c1 * 16, none⟩) := sf hk 10
    have hx := (cells_facts hS (sg (hs 1 (by decide))) (i := c1) (c := x1) HX1.out).2.2.1
    exact rp (.agg (cv x1)) (by simp [execOp, Act.eval, f187, go_sem, hx]) hl hs hS
   apply sc
   ·intro a w' vs σ hS hl hs hk
    have f7 : a.tmps[7]?.getD undef = .pointer (some ⟨b7, 0, none⟩) := sof hk
    exact rp (pt b7 2) (by simp [execOp, Act.eval, f7, go_sem]) hl hs hS
   apply sc
   ·intro a w' vs σ hS hl hs hk
    have f189 : a.tmps[189]?.getD undef = .pointer (some ⟨b7, 2, none⟩) := sf hk 12
    have hx := (hS.box (sg (hs 5 (by decide)))).cell
    exact rp (.int .i32 r) (by simp [execOp, Act.eval, f189, go_sem, hx]) hl hs hS
   apply sc
   ·intro a w' vs σ hS hl hs hk
    have e188 : a.tmps.getD 188 undef = .agg (cv x1) := sv hk 11
    have e190 : a.tmps.getD 190 undef = .int .i32 r := sv hk 13
    have hcon := cellMark_any x1 r w' (hS.tabs HT.out)
    unfold MarkEnd at hcon
    rw [HMK.out] at hcon
    exact ro_call (f := 69) (wanted_none rfl) rfl (by simp only [List.map_toArray, List.map_cons, List.map_nil, Act.eval, e188, e190] <;> rfl) (fun _ _ => by kernel_rfl) ((hcon).mono fun e w2 ⟨h1, h2⟩ => ⟨_, h1, sp_same (by kernel_rfl) hl hs (hS.bel h2) rfl, trivial⟩)
   apply sc
   ·intro a w' vs σ hS hl hs hk
    have f191 : a.tmps[191]?.getD undef = .tuple #[.agg (cv y), .int .i64 er] := sf hk 14
    exact rp (.tuple #[.agg (cv y), .int .i64 er]) (by simp [execOp, Act.eval, f191, go_sem]) hl hs hS
   apply sc
   ·intro a w' vs σ hS hl hs hk
    have f176 : a.tmps[176]?.getD undef = .tuple #[.agg (cv y), .int .i64 er] := sf hk 15
    exact rp (.agg (cv y)) (by simp [execOp, Act.eval, f176, go_sem]) hl hs hS
   apply sc
   ·intro a w' vs σ hS hl hs hk
    have f176 : a.tmps[176]?.getD undef = .tuple #[.agg (cv y), .int .i64 er] := sf hk 15
    exact rp (.int .i64 er) (by simp [execOp, Act.eval, f176, go_sem]) hl hs hS
   apply sc
   ·intro a w' vs σ hS hl hs hk
    have h1 : σ[0]? = some .none := hs 0 (by decide)
    exact rs_run (v' := .pointer (some ⟨w'.heap.size, 0, none⟩)) (w' := w'.alloc (.cells (cv cell0) 71)) (wanted_none rfl) (by first | (simp [execOp, go_sem]; done) | (simp [execOp, go_sem]; rfl) | rfl) (sp_set 0 (.box w'.heap.size 71 (cv cell0)) (by kernel_rfl) (by simp) (by decide) hl hs (by rfl) (hS.alloc1.place (sg h1)) ⟨_, rfl⟩)
   apply sc
   ·intro a w' vs σ hS hl hs hk
    have e17 : a.tmps.getD 17 undef = vs 18 := sk_val hk 18 (by kernel_rfl) rfl rfl
    have p17 : (fun u : Value => ∃ g, u = .pointer (some ⟨g, 0, none⟩)) (vs 18) := (hk.1 18 (by kernel_rfl)).1
    have f17 := gd e17
    have f192 : a.tmps[192]?.getD undef = .agg (cv y) := sf hk 16
    obtain ⟨g9, q9⟩ := p17
    have h1 : σ[0]? = some (.box (blkOf (vs 18)) 71 (cv cell0)) := hs 0 (by decide)
    rw [q9, show blkOf (.pointer (some ⟨g9, 0, none⟩)) = g9 from rfl] at h1
    have hst := store_cv_row w' g9 (cv cell0) y (hS.box (sg h1)) (cv_size _)
    exact rstep_store (w2 := w'.setRow g9 (cv y)) (wanted_none rfl) rfl (by simp [execOp, Act.eval, e17, f17, f192, q9, hst, go_sem]) (sp_set 0 (.box g9 71 (cv y)) (by kernel_rfl) (by simp) (by decide) hl hs (by show Ob.box (blkOf (vs 18)) 71 (cv y) = _; rw [q9]; rfl) (hS.rowBox 0 (ds := cv y) (sg h1)) trivial) trivial
   apply sc
   ·intro a w' vs σ hS hl hs hk
    have f193 : a.tmps[193]?.getD undef = .int .i64 er := sf hk 17
    exact rp (.int .i64 er) (by simp [execOp, Act.eval, f193, go_sem]) hl hs hS
   exact SSteps.nil
  ·intro vs w' hS hv
   have q0 : vs 0 = _ := hv 0 (by decide)
   have q1 : vs 1 = _ := hv 1 (by decide)
   have q2 : vs 2 = _ := hv 2 (by decide)
   have q3 : vs 3 = _ := hv 3 (by decide)
   have q4 : vs 4 = _ := hv 4 (by decide)
   have q5 : vs 5 = _ := hv 5 (by decide)
   have q6 : vs 6 = _ := hv 6 (by decide)
   have q7 : vs 7 = _ := hv 7 (by decide)
   have q8 : vs 8 = _ := hv 8 (by decide)
   have q9 : vs 9 = _ := hv 9 (by decide)
   have q10 : vs 10 = _ := hv 10 (by decide)
   have q11 : vs 11 = _ := hv 11 (by decide)
   have q12 : vs 12 = _ := hv 12 (by decide)
   have q13 : vs 13 = _ := hv 13 (by decide)
   have q14 : vs 14 = _ := hv 14 (by decide)
   have q15 : vs 15 = _ := hv 15 (by decide)
   have q16 : vs 16 = _ := hv 16 (by decide)
   have q17 : vs 17 = _ := hv 17 (by decide)
   have q20 : vs 20 = _ := hv 20 (by decide)
   obtain ⟨b17, q18⟩ := (show ∃ g, vs 18 = .pointer (some ⟨g, 0, none⟩) from hv 18 (by decide))
   rw [q18, show blkOf (.pointer (some ⟨b17, 0, none⟩)) = b17 from rfl] at hS
   have S2 := Lib.hid hS
   simp only [putL, Act.put, Nat.zero_add, Nat.reduceAdd, List.setIfInBounds_toArray, List.set_cons_succ, List.set_cons_zero, q0, q1, q2, q3, q4, q5, q6, q7, q8, q9, q10, q11, q12, q13, q14, q15, q16, q17, q20]
   clear hS hv q0 q1 q2 q3 q4 q5 q6 q7 q8 q9 q10 q11 q12 q13 q14 q15 q16 q17 q20
   simp only [q18]
   have S7 := Lib.hid (show Objs w0 _ (.cells (.slice (some ⟨g, 0, none⟩) l.1.length cg) l.1 :: .linesx (.slice (some ⟨gr, 0, none⟩) L.length cr) L i (.slice (some ⟨g, 0, none⟩) l.1.length cg) :: .box p2 33 #[.int .i64 ↑cols, .slice (some ⟨gr, 0, none⟩) L.length cr] :: .box b8 48 #[.int .i64 0, .int .i64 0, .bool false] :: .box b7 56 (av16 ⟨1, n, r, q, auto, ins⟩) :: .box b6 48 #[.int .i64 ↑i, .int .i64 ↑j, .bool pend] :: .grid p 58 cols L :: .box b17 71 (cv y) :: rest) from (Objs.pick (σ := [_, _, _, _, _, _, _, _]) (os := rest) S2.out [some 1, some 2, some 3, some 4, some 5, some 6, some 7, some 0] (by decide) rfl))
   clear S2 S5 q18
   by_cases he : er = 0
   ·subst he
    have HMB := Lib.hid (show mkB l.1 c0 r = true by rw [HB.out]; simp [hr])
    have HLN := HLN0
    have HLS := Lib.hid (show L.set i (l.1.set c1 y, l.2) = LN by rw [← HLN0.out, rowMod_some HL.out, HM.out, HMB.out, if_pos rfl])
    clear hr
    go_upto_region 25 with (fail)
    refine wp_region_stage (w0 := w0) (os := rest) (by kernel_rfl) (by kernel_rfl) (by kernel_rfl) [(0, 12, [], fun vs => .cells (.slice (some ⟨g, 0, none⟩) l.1.length cg) (l.1.set c1 y))] [[], [], [], [2], [], [5], [], [], [1], [], [7], [], [0]] [.cells (.slice (some ⟨g, 0, none⟩) l.1.length cg) l.1, .linesx (.slice (some ⟨gr, 0, none⟩) L.length cr) L i (.slice (some ⟨g, 0, none⟩) l.1.length cg), .box p2 33 #[.int .i64 ↑cols, .slice (some ⟨gr, 0, none⟩) L.length cr], .box b8 48 #[.int .i64 0, .int .i64 0, .bool false], .box b7 56 (av16 ⟨1, n, r, q, auto, ins⟩), .box b6 48 #[.int .i64 ↑i, .int .i64 ↑j, .bool pend], .grid p 58 cols L, .box b17 71 (cv y)] (fun opn u => match opn with | 0 => u = pt p2 0 | 1 => u = pt p2 0 | 2 => u = pt p2 1 | 3 => u = .slice (some ⟨gr, 0, none⟩) L.length cr | 4 => u = pt b6 0 | 5 => u = .int .i64 ↑i | 6 => u = pt gr (i * 2) | 7 => u = pt gr (i * 2) | 8 => u = .slice (some ⟨g, 0, none⟩) l.1.length cg | 9 => u = .int .i64 ↑c1 | 10 => u = .agg (cv y) | 11 => u = pt g (c1 * 16) | 12 => True | _ => True) (fun vs => [.cells (.slice (some ⟨g, 0, none⟩) l.1.length cg) (l.1.set c1 y), .linesx (.slice (some ⟨gr, 0, none⟩) L.length cr) L i (.slice (some ⟨g, 0, none⟩) l.1.length cg), .box p2 33 #[.int .i64 ↑cols, .slice (some ⟨gr, 0, none⟩) L.length cr], .box b8 48 #[.int .i64 0, .int .i64 0, .bool false], .box b7 56 (av16 ⟨1, n, r, q, auto, ins⟩), .box b6 48 #[.int .i64 ↑i, .int .i64 ↑j, .bool pend], .grid p 58 cols L, .box b17 71 (cv y)]) (by kernel_rfl) (fun vs => by rfl) S7.out ?_ ?_
    ·apply sc
     ·intro a w' vs σ hS hl hs hk
      have f1 : a.tmps[1]?.getD undef = .pointer (some ⟨p2, 0, none⟩) := sof hk
      exact rp (pt p2 0) (by simp [execOp, Act.eval, f1, go_sem]) hl hs hS
     apply sc
     ·intro a w' vs σ hS hl hs hk
      have f196 : a.tmps[196]?.getD undef = .pointer (some ⟨p2, 0, none⟩) := sf hk 0
      exact rp (pt p2 0) (by simp [execOp, Act.eval, f196, go_sem]) hl hs hS
     apply sc
     ·intro a w' vs σ hS hl hs hk
      have f197 : a.tmps[197]?.getD undef = .pointer (some ⟨p2, 0, none⟩) := sf hk 1
      exact rp (pt p2 1) (by simp [execOp, Act.eval, f197, go_sem]) hl hs hS
     apply sc
     ·intro a w' vs σ hS hl hs hk
      have f198 : a.tmps[198]?.getD undef = .pointer (some ⟨p2, 1, none⟩) := sf hk 2
      have hx := (hS.box (sg (hs 2 (by decide)))).cell
      exact rp (.slice (some ⟨gr, 0, none⟩) L.length cr) (by simp [execOp, Act.eval, f198, go_sem, hx]) hl hs hS
     apply sc
     ·intro a w' vs σ hS hl hs hk
      have f6 : a.tmps[6]?.getD undef = .pointer (some ⟨b6, 0, none⟩) := sof hk
      exact rp (pt b6 0) (by simp [execOp, Act.eval, f6, go_sem]) hl hs hS
     apply sc
     ·intro a w' vs σ hS hl hs hk
      have f200 : a.tmps[200]?.getD undef = .pointer (some ⟨b6, 0, none⟩) := sf hk 4
      have hx := (hS.box (sg (hs 5 (by decide)))).cell
      exact rp (.int .i64 ↑i) (by simp [execOp, Act.eval, f200, go_sem, hx]) hl hs hS
     apply sc
     ·intro a w' vs σ hS hl hs hk
      have f199 : a.tmps[199]?.getD undef = .slice (some ⟨gr, 0, none⟩) L.length cr := sf hk 3
      have f201 : a.tmps[201]?.getD undef = .int .i64 ↑i := sf hk 5
      exact rp (pt gr (i * 2)) (by simp [execOp, Act.eval, f199, f201, go_sem, hi0, hi1]) hl hs hS
     apply sc
     ·intro a w' vs σ hS hl hs hk
      have f202 : a.tmps[202]?.getD undef = .pointer (some ⟨gr, i * 2, none⟩) := sf hk 6
      exact rp (pt gr (i * 2)) (by simp [execOp, Act.eval, f202, go_sem]) hl hs hS
     apply sc
     ·intro a w' vs σ hS hl hs hk
      have f203 : a.tmps[203]?.getD undef = .pointer (some ⟨gr, i * 2, none⟩) := sf hk 7
      obtain ⟨g', c', e', -, -, -, -, hx, -, -⟩ := hS.linesxRd (sg (hs 1 (by decide)))
      simp only [Value.slice.injEq, Option.some.injEq, Addr.mk.injEq, and_true, true_and] at e'
      obtain ⟨rfl, rfl⟩ := e'
      exact rp (.slice (some ⟨g, 0, none⟩) l.1.length cg) (by simp [execOp, Act.eval, f203, go_sem, hx]) hl hs hS
     apply sc
     ·intro a w' vs σ hS hl hs hk
      have f16 : a.tmps[16]?.getD undef = .int .i64 ↑c1 := sof hk
      exact rp (.int .i64 ↑c1) (by simp [execOp, Act.eval, f16, go_sem]) hl hs hS
     apply sc
     ·intro a w' vs σ hS hl hs hk
      have f17 : a.tmps[17]?.getD undef = .pointer (some ⟨b17, 0, none⟩) := sof hk
      have hx := (hS.box (sg (hs 7 (by decide)))).cellAt
      exact rp (.agg (cv y)) (by simp [execOp, Act.eval, f17, go_sem, hx]) hl hs hS
     apply sc
     ·intro a w' vs σ hS hl hs hk
      have f204 : a.tmps[204]?.getD undef = .slice (some ⟨g, 0, none⟩) l.1.length cg := sf hk 8
      have f205 : a.tmps[205]?.getD undef = .int .i64 ↑c1 := sf hk 9
      exact rp (pt g (c1 * 16)) (by simp [execOp, Act.eval, f204, f205, go_sem, hj0', hj1]) hl hs hS
     apply sc
     ·intro a w' vs σ hS hl hs hk
      have f207 : a.tmps[207]?.getD undef = .pointer (some ⟨g, c1 * 16, none⟩) := sf hk 11
      have f206 : a.tmps[206]?.getD undef = .agg (cv y) := sf hk 10
      have h1 : σ[0]? = some (.cells (.slice (some ⟨g, 0, none⟩) l.1.length cg) l.1) := hs 0 (by decide)
      obtain ⟨W9, hst, ho, hg⟩ := (hS.own (sg h1)).putAt (k := c1) hc1 y
      exact rstep_store (w2 := W9) (wanted_none rfl) rfl (by simp [execOp, Act.eval, f207, f206, hst, go_sem]) (sp_set 0 (.cells (.slice (some ⟨g, 0, none⟩) l.1.length cg) (l.1.set c1 y)) (by kernel_rfl) (by simp) (by decide) hl hs (by rfl) (hS.cellsUpd (sg h1) ho hg) trivial) trivial
     exact SSteps.nil
    ·intro vs w' hS hv
     have q0 : vs 0 = _ := hv 0 (by decide)
     have q1 : vs 1 = _ := hv 1 (by decide)
     have q2 : vs 2 = _ := hv 2 (by decide)
     have q3 : vs 3 = _ := hv 3 (by decide)
     have q4 : vs 4 = _ := hv 4 (by decide)
     have q5 : vs 5 = _ := hv 5 (by decide)
     have q6 : vs 6 = _ := hv 6 (by decide)
     have q7 : vs 7 = _ := hv 7 (by decide)
     have q8 : vs 8 = _ := hv 8 (by decide)
     have q9 : vs 9 = _ := hv 9 (by decide)
     have q10 : vs 10 = _ := hv 10 (by decide)
     have q11 : vs 11 = _ := hv 11 (by decide)
     have S2 := Lib.hid hS
     simp only [putL, Act.put, Nat.zero_add, Nat.reduceAdd, List.setIfInBounds_toArray, List.set_cons_succ, List.set_cons_zero, q0, q1, q2, q3, q4, q5, q6, q7, q8, q9, q10, q11]
     clear hS hv q0 q1 q2 q3 q4 q5 q6 q7 q8 q9 q10 q11
     have S8 := Lib.hid (show Objs w0 _ (.cells (.slice (some ⟨g, 0, none⟩) l.1.length cg) (l.1.set c1 y) :: .linesx (.slice (some ⟨gr, 0, none⟩) L.length cr) L i (.slice (some ⟨g, 0, none⟩) l.1.length cg) :: .box p2 33 #[.int .i64 ↑cols, .slice (some ⟨gr, 0, none⟩) L.length cr] :: .box b8 48 #[.int .i64 0, .int .i64 0, .bool false] :: .box b7 56 (av16 ⟨1, n, r, q, auto, ins⟩) :: .box b6 48 #[.int .i64 ↑i, .int .i64 ↑j, .bool pend] :: .grid p 58 cols L :: rest) from (Objs.pick (σ := [_, _, _, _, _, _, _, _]) (os := rest) S2.out [some 0, some 1, some 2, some 3, some 4, some 5, some 6] (by decide) rfl))
     clear S2 S7
     go_upto_region 26 with (fail)
     refine wp_region_stage (w0 := w0) (os := rest) (by kernel_rfl) (by kernel_rfl) (by kernel_rfl) [(6, 7, [], fun vs => .grid p 58 cols LN), (3, 8, [], fun vs => .box b8 48 #[.int .i64 ↑i, .int .i64 ↑j, .bool pend])] [[5], [], [5], [], [4], [], [], [6], [3], []] [.cells (.slice (some ⟨g, 0, none⟩) l.1.length cg) (l.1.set c1 y), .linesx (.slice (some ⟨gr, 0, none⟩) L.length cr) L i (.slice (some ⟨g, 0, none⟩) l.1.length cg), .box p2 33 #[.int .i64 ↑cols, .slice (some ⟨gr, 0, none⟩) L.length cr], .box b8 48 #[.int .i64 0, .int .i64 0, .bool false], .box b7 56 (av16 ⟨1, n, r, q, auto, ins⟩), .box b6 48 #[.int .i64 ↑i, .int .i64 ↑j, .bool pend], .grid p 58 cols L] (fun opn u => match opn with | 0 => u = .agg #[.int .i64 ↑i, .int .i64 ↑j, .bool pend] | 1 => u = pt p 0 | 2 => u = .agg #[.int .i64 ↑i, .int .i64 ↑j, .bool pend] | 3 => u = pt b7 2 | 4 => u = .int .i32 r | 5 => u = .int .i64 0 | 6 => u = .bool true | 7 => u = .bool true | 8 => True | 9 => u = .bool true | _ => True) (fun vs => [.cells (.slice (some ⟨g, 0, none⟩) l.1.length cg) (l.1.set c1 y), .linesx (.slice (some ⟨gr, 0, none⟩) L.length cr) L i (.slice (some ⟨g, 0, none⟩) l.1.length cg), .box p2 33 #[.int .i64 ↑cols, .slice (some ⟨gr, 0, none⟩) L.length cr], .box b8 48 #[.int .i64 ↑i, .int .i64 ↑j, .bool pend], .box b7 56 (av16 ⟨1, n, r, q, auto, ins⟩), .box b6 48 #[.int .i64 ↑i, .int .i64 ↑j, .bool pend], .grid p 58 cols LN]) (by kernel_rfl) (fun vs => by rfl) S8.out ?_ ?_
     ·apply sc
      ·intro a w' vs σ hS hl hs hk
       have f6 : a.tmps[6]?.getD undef = .pointer (some ⟨b6, 0, none⟩) := sof hk
       have hx := (hS.box (sg (hs 5 (by decide)))).cell
       exact rp (.agg #[.int .i64 ↑i, .int .i64 ↑j, .bool pend]) (by simp [execOp, Act.eval, f6, go_sem, hx]) hl hs hS
      apply sc
      ·intro a w' vs σ hS hl hs hk
       have f0 : a.tmps[0]?.getD undef = .pointer (some ⟨p, 0, none⟩) := sof hk
       exact rp (pt p 0) (by simp [execOp, Act.eval, f0, go_sem]) hl hs hS
      apply sc
      ·intro a w' vs σ hS hl hs hk
       have f6 : a.tmps[6]?.getD undef = .pointer (some ⟨b6, 0, none⟩) := sof hk
       have hx := (hS.box (sg (hs 5 (by decide)))).cell
       exact rp (.agg #[.int .i64 ↑i, .int .i64 ↑j, .bool pend]) (by simp [execOp, Act.eval, f6, go_sem, hx]) hl hs hS
      apply sc
      ·intro a w' vs σ hS hl hs hk
       have f7 : a.tmps[7]?.getD undef = .pointer (some ⟨b7, 0, none⟩) := sof hk
       exact rp (pt b7 2) (by simp [execOp, Act.eval, f7, go_sem]) hl hs hS
      apply sc
      ·intro a w' vs σ hS hl hs hk
       have f211 : a.tmps[211]?.getD undef = .pointer (some ⟨b7, 2, none⟩) := sf hk 3
       have hx := (hS.box (sg (hs 4 (by decide)))).cell
       exact rp (.int .i32 r) (by simp [execOp, Act.eval, f211, go_sem, hx]) hl hs hS
      apply sc
      ·intro a w' vs σ hS hl hs hk
       have f18 : a.tmps[18]?.getD undef = .int .i64 0 := sof hk
       exact rp (.int .i64 0) (by simp [execOp, Act.eval, f18, go_sem]) hl hs hS
      apply sc
      ·intro a w' vs σ hS hl hs hk
       have f213 : a.tmps[213]?.getD undef = .int .i64 0 := sf hk 5
       exact rp (.bool true) (by simp [execOp, Act.eval, f213, go_sem]) hl hs hS
      apply sc
      ·intro a w' vs σ hS hl hs hk
       have e209 : a.tmps.getD 209 undef = .pointer (some ⟨p, 0, none⟩) := sv hk 1
       have e210 : a.tmps.getD 210 undef = .agg #[.int .i64 ↑i, .int .i64 ↑j, .bool pend] := sv hk 2
       have e212 : a.tmps.getD 212 undef = .int .i32 r := sv hk 4
       have e214 : a.tmps.getD 214 undef = .bool true := sv hk 6
       have hcon := marks_at HT.out hS (k := 6) (sg (hs 6 (by decide))) hc hcm hL HR.out HIN.out HW.out HCOL.out HL.out HVL.out
       rw [HMB.out, HLN.out] at hcon
       exact ro_call (f := 29) (wanted_none rfl) rfl (by simp only [List.map_toArray, List.map_cons, List.map_nil, Act.eval, e209, e210, e212, e214] <;> rfl) (fun _ _ => by kernel_rfl) ((hcon).mono fun e w2 ⟨h1, h2⟩ => ⟨_, h1, sp_set 6 (.grid p 58 cols LN) (by kernel_rfl) (by simp) (by decide) hl hs (by rfl) h2 rfl, trivial⟩)
      apply sc
      ·intro a w' vs σ hS hl hs hk
       have f8 : a.tmps[8]?.getD undef = .pointer (some ⟨b8, 0, none⟩) := sof hk
       have f208 : a.tmps[208]?.getD undef = .agg #[.int .i64 ↑i, .int .i64 ↑j, .bool pend] := sf hk 0
       have h1 : σ[3]? = some (.box b8 48 #[.int .i64 0, .int .i64 0, .bool false]) := hs 3 (by decide)
       obtain ⟨hx, hf, hz⟩ := (hS.box (sg h1)).facts
       exact rstep_store (w2 := ((w'.setCell ⟨b8, 0, none⟩ (.int .i64 ↑i)).setCell ⟨b8, 1, none⟩ (.int .i64 ↑j)).setCell ⟨b8, 2, none⟩ (.bool pend)) (wanted_none rfl) rfl (by simp [execOp, Act.eval, f8, f208, hx, hf, hz, go_sem]) (sp_set 3 (.box b8 48 #[.int .i64 ↑i, .int .i64 ↑j, .bool pend]) (by kernel_rfl) (by simp) (by decide) hl hs (by rfl) (hS.setCur 3 (sg h1)) trivial) trivial
      apply sc
      ·intro a w' vs σ hS hl hs hk
       have f215 : a.tmps[215]?.getD undef = .bool true := sf hk 7
       exact rp (.bool true) (by simp [execOp, Act.eval, f215, go_sem]) hl hs hS
      exact SSteps.nil
     ·intro vs w' hS hv
      have q0 : vs 0 = _ := hv 0 (by decide)
      have q1 : vs 1 = _ := hv 1 (by decide)
      have q2 : vs 2 = _ := hv 2 (by decide)
      have q3 : vs 3 = _ := hv 3 (by decide)
      have q4 : vs 4 = _ := hv 4 (by decide)
      have q5 : vs 5 = _ := hv 5 (by decide)
      have q6 : vs 6 = _ := hv 6 (by decide)
      have q7 : vs 7 = _ := hv 7 (by decide)
      have q9 : vs 9 = _ := hv 9 (by decide)
      have S2 := Lib.hid hS
      simp only [putL, Act.put, Nat.zero_add, Nat.reduceAdd, List.setIfInBounds_toArray, List.set_cons_succ, List.set_cons_zero, q0, q1, q2, q3, q4, q5, q6, q7, q9]
      clear hS hv q0 q1 q2 q3 q4 q5 q6 q7 q9
      clear S8
      have SF := S2
      clear S2
      go_wp2_with fail
      refine bodyPost_ret (results_ct Tryd.results31 _ _ b8 _ _ rfl (SF.out.box (k := 3) rfl) Tryd.underlying48 rfl pcursor_size) rfl ?_
      have hfin := SF.out.closeAt HL.out
      exact ⟨HIN.out, HK1.out, HK2.out, HK3.out, rfl, by rw [HLS.out] at hfin; exact (Objs.pick (σ := [_, _, _, _, _]) (os := rest) hfin [some 4, some 0] (by decide) rfl)⟩
   ·have HMB := Lib.hid (show mkB l.1 c0 r = false by rw [HB.out]; simp [he])
    have HLN := Lib.hid (show rowMod i (mkRow c0 r) L = L by rw [rowMod_some HL.out, HM.out, HMB.out, if_neg (by simp), show ((l.1, l.2) : Ln) = l from rfl, set_self HL.out])
    have HLNL := Lib.hid (show LN = L by rw [← HLN0.out]; exact HLN.out)
    have hbe := beq_no he
    have S8 := Lib.hid (show Objs w0 _ (.cells (.slice (some ⟨g, 0, none⟩) l.1.length cg) l.1 :: .linesx (.slice (some ⟨gr, 0, none⟩) L.length cr) L i (.slice (some ⟨g, 0, none⟩) l.1.length cg) :: .box p2 33 #[.int .i64 ↑cols, .slice (some ⟨gr, 0, none⟩) L.length cr] :: .box b8 48 #[.int .i64 0, .int .i64 0, .bool false] :: .box b7 56 (av16 ⟨1, n, r, q, auto, ins⟩) :: .box b6 48 #[.int .i64 ↑i, .int .i64 ↑j, .bool pend] :: .grid p 58 cols L :: rest) from (Objs.pick (σ := [_, _, _, _, _, _, _, _]) (os := rest) S7.out [some 0, some 1, some 2, some 3, some 4, some 5, some 6] (by decide) rfl))
    clear hr he S7
    go_upto_region 26 with (fail)
    refine wp_region_stage (w0 := w0) (os := rest) (by kernel_rfl) (by kernel_rfl) (by kernel_rfl) [(6, 7, [], fun vs => .grid p 58 cols L), (3, 8, [], fun vs => .box b8 48 #[.int .i64 ↑i, .int .i64 ↑j, .bool pend])] [[5], [], [5], [], [4], [], [], [6], [3], []] [.cells (.slice (some ⟨g, 0, none⟩) l.1.length cg) l.1, .linesx (.slice (some ⟨gr, 0, none⟩) L.length cr) L i (.slice (some ⟨g, 0, none⟩) l.1.length cg), .box p2 33 #[.int .i64 ↑cols, .slice (some ⟨gr, 0, none⟩) L.length cr], .box b8 48 #[.int .i64 0, .int .i64 0, .bool false], .box b7 56 (av16 ⟨1, n, r, q, auto, ins⟩), .box b6 48 #[.int .i64 ↑i, .int .i64 ↑j, .bool pend], .grid p 58 cols L] (fun opn u => match opn with | 0 => u = .agg #[.int .i64 ↑i, .int .i64 ↑j, .bool pend] | 1 => u = pt p 0 | 2 => u = .agg #[.int .i64 ↑i, .int .i64 ↑j, .bool pend] | 3 => u = pt b7 2 | 4 => u = .int .i32 r | 5 => u = .int .i64 er | 6 => u = .bool false | 7 => u = .bool true | 8 => True | 9 => u = .bool true | _ => True) (fun vs => [.cells (.slice (some ⟨g, 0, none⟩) l.1.length cg) l.1, .linesx (.slice (some ⟨gr, 0, none⟩) L.length cr) L i (.slice (some ⟨g, 0, none⟩) l.1.length cg), .box p2 33 #[.int .i64 ↑cols, .slice (some ⟨gr, 0, none⟩) L.length cr], .box b8 48 #[.int .i64 ↑i, .int .i64 ↑j, .bool pend], .box b7 56 (av16 ⟨1, n, r, q, auto, ins⟩), .box b6 48 #[.int .i64 ↑i, .int .i64 ↑j, .bool pend], .grid p 58 cols L]) (by kernel_rfl) (fun vs => by rfl) S8.out ?_ ?_
    ·apply sc
     ·intro a w' vs σ hS hl hs hk
      have f6 : a.tmps[6]?.getD undef = .pointer (some ⟨b6, 0, none⟩) := sof hk
      have hx := (hS.box (sg (hs 5 (by decide)))).cell
      exact rp (.agg #[.int .i64 ↑i, .int .i64 ↑j, .bool pend]) (by simp [execOp, Act.eval, f6, go_sem, hx]) hl hs hS
     apply sc
     ·intro a w' vs σ hS hl hs hk
      have f0 : a.tmps[0]?.getD undef = .pointer (some ⟨p, 0, none⟩) := sof hk
      exact rp (pt p 0) (by simp [execOp, Act.eval, f0, go_sem]) hl hs hS
     apply sc
     ·intro a w' vs σ hS hl hs hk
      have f6 : a.tmps[6]?.getD undef = .pointer (some ⟨b6, 0, none⟩) := sof hk
      have hx := (hS.box (sg (hs 5 (by decide)))).cell
      exact rp (.agg #[.int .i64 ↑i, .int .i64 ↑j, .bool pend]) (by simp [execOp, Act.eval, f6, go_sem, hx]) hl hs hS
     apply sc
     ·intro a w' vs σ hS hl hs hk
      have f7 : a.tmps[7]?.getD undef = .pointer (some ⟨b7, 0, none⟩) := sof hk
      exact rp (pt b7 2) (by simp [execOp, Act.eval, f7, go_sem]) hl hs hS
     apply sc
     ·intro a w' vs σ hS hl hs hk
      have f211 : a.tmps[211]?.getD undef = .pointer (some ⟨b7, 2, none⟩) := sf hk 3
      have hx := (hS.box (sg (hs 4 (by decide)))).cell
      exact rp (.int .i32 r) (by simp [execOp, Act.eval, f211, go_sem, hx]) hl hs hS
     apply sc
     ·intro a w' vs σ hS hl hs hk
      have f18 : a.tmps[18]?.getD undef = .int .i64 er := sof hk
      exact rp (.int .i64 er) (by simp [execOp, Act.eval, f18, go_sem]) hl hs hS
     apply sc
     ·intro a w' vs σ hS hl hs hk
      have f213 : a.tmps[213]?.getD undef = .int .i64 er := sf hk 5
      exact rp (.bool false) (by simp [execOp, Act.eval, f213, go_sem, hbe]) hl hs hS
     apply sc
     ·intro a w' vs σ hS hl hs hk
      have e209 : a.tmps.getD 209 undef = .pointer (some ⟨p, 0, none⟩) := sv hk 1
      have e210 : a.tmps.getD 210 undef = .agg #[.int .i64 ↑i, .int .i64 ↑j, .bool pend] := sv hk 2
      have e212 : a.tmps.getD 212 undef = .int .i32 r := sv hk 4
      have e214 : a.tmps.getD 214 undef = .bool false := sv hk 6
      have hcon := marks_at HT.out hS (k := 6) (sg (hs 6 (by decide))) hc hcm hL HR.out HIN.out HW.out HCOL.out HL.out HVL.out
      rw [HMB.out, HLN.out] at hcon
      exact ro_call (f := 29) (wanted_none rfl) rfl (by simp only [List.map_toArray, List.map_cons, List.map_nil, Act.eval, e209, e210, e212, e214] <;> rfl) (fun _ _ => by kernel_rfl) ((hcon).mono fun e w2 ⟨h1, h2⟩ => ⟨_, h1, sp_set 6 (.grid p 58 cols L) (by kernel_rfl) (by simp) (by decide) hl hs (by rfl) h2 rfl, trivial⟩)
     apply sc
     ·intro a w' vs σ hS hl hs hk
      have f8 : a.tmps[8]?.getD undef = .pointer (some ⟨b8, 0, none⟩) := sof hk
      have f208 : a.tmps[208]?.getD undef = .agg #[.int .i64 ↑i, .int .i64 ↑j, .bool pend] := sf hk 0
      have h1 : σ[3]? = some (.box b8 48 #[.int .i64 0, .int .i64 0, .bool false]) := hs 3 (by decide)
      obtain ⟨hx, hf, hz⟩ := (hS.box (sg h1)).facts
      exact rstep_store (w2 := ((w'.setCell ⟨b8, 0, none⟩ (.int .i64 ↑i)).setCell ⟨b8, 1, none⟩ (.int .i64 ↑j)).setCell ⟨b8, 2, none⟩ (.bool pend)) (wanted_none rfl) rfl (by simp [execOp, Act.eval, f8, f208, hx, hf, hz, go_sem]) (sp_set 3 (.box b8 48 #[.int .i64 ↑i, .int .i64 ↑j, .bool pend]) (by kernel_rfl) (by simp) (by decide) hl hs (by rfl) (hS.setCur 3 (sg h1)) trivial) trivial
     apply sc
     ·intro a w' vs σ hS hl hs hk
      have f215 : a.tmps[215]?.getD undef = .bool true := sf hk 7
      exact rp (.bool true) (by simp [execOp, Act.eval, f215, go_sem]) hl hs hS
     exact SSteps.nil
    ·intro vs w' hS hv
     have q0 : vs 0 = _ := hv 0 (by decide)
     have q1 : vs 1 = _ := hv 1 (by decide)
     have q2 : vs 2 = _ := hv 2 (by decide)
     have q3 : vs 3 = _ := hv 3 (by decide)
     have q4 : vs 4 = _ := hv 4 (by decide)
     have q5 : vs 5 = _ := hv 5 (by decide)
     have q6 : vs 6 = _ := hv 6 (by decide)
     have q7 : vs 7 = _ := hv 7 (by decide)
     have q9 : vs 9 = _ := hv 9 (by decide)
     have S2 := Lib.hid hS
     simp only [putL, Act.put, Nat.zero_add, Nat.reduceAdd, List.setIfInBounds_toArray, List.set_cons_succ, List.set_cons_zero, q0, q1, q2, q3, q4, q5, q6, q7, q9]
     clear hS hv q0 q1 q2 q3 q4 q5 q6 q7 q9
     clear S8
     have SF := S2
     clear S2
     go_wp2_with fail
     refine bodyPost_ret (results_ct Tryd.results31 _ _ b8 _ _ rfl (SF.out.box (k := 3) rfl) Tryd.underlying48 rfl pcursor_size) rfl ?_
     have hfin := SF.out.closeAt HL.out
     rw [HLNL.out]
     exact ⟨HIN.out, rfl, HR.out, HV.out, rfl, by rw [show L.set i (l.1, l.2) = L from set_self HL.out] at hfin; exact (Objs.pick (σ := [_, _, _, _, _]) (os := rest) hfin [some 4, some 0] (by decide) rfl)⟩
end
end Go.Proofs.YtppijfjigcoifaaDoor

namespace Go.Proofs.YtppijfjigcoifaaDoor
open Go.RowKit

section
variable {w0 : World} {p p2 cols : Nat} {L : List Ln} {pend : Bool} {i j : Nat}
def Done16 (w0 : World) (p p2 cols : Nat) (L : List Ln) (i j : Nat) (pend : Bool) (a : Act16) (i' j' : Nat) (pd' : Bool) (L' : List Ln) : Prop :=
 (inG i' j' pd' L.length cols = true ∧ L'.length = L.length ∧ Rect cols L' ∧ AllV L') ∧ ∀ (w : World) (rest : List Ob), Objs w0 w (.grid p 58 cols L :: .grid p2 33 cols L :: rest) →
  Calls Tryd.prog 31 #[.pointer (some ⟨p, 0, none⟩), .pointer (some ⟨p2, 0, none⟩), .agg #[.int .i64 ↑i, .int .i64 ↑j, .bool pend], .agg (av16 a)] w fun e w' => e = .returned (.tuple #[.agg #[.int .i64 ↑i', .int .i64 ↑j', .bool pd'], .bool true]) ∧ Objs w0 w' (.grid p 58 cols L' :: .grid p2 33 cols L' :: rest)
theorem done16 {a : Act16} {i' j' : Nat} {pd' : Bool} {L' : List Ln} (h1 : inG i' j' pd' L.length cols = true) (h2 : L'.length = L.length) (h3 : Rect cols L') (h4 : AllV L') (h : ∀ (w : World) (rest : List Ob), Objs w0 w (.grid p 58 cols L :: .grid p2 33 cols L :: rest) →
  Calls Tryd.prog 31 #[.pointer (some ⟨p, 0, none⟩), .pointer (some ⟨p2, 0, none⟩), .agg #[.int .i64 ↑i, .int .i64 ↑j, .bool pend], .agg (av16 a)] w (Does16 w0 p p2 cols L rest i' j' pd' L')) : ∃ i' j' pd' L', Done16 w0 p p2 cols L i j pend a i' j' pd' L' :=
 ⟨i', j', pd', L', ⟨h1, h2, h3, h4⟩, fun w rest hS => (h w rest hS).mono fun e w' ⟨_, _, _, _, g1, g2⟩ => ⟨g1, g2⟩⟩
theorem print_in {x0 : Cell} {auto : Bool} (hc : 0 < cols) (hi : i < L.length) : inG i (prCol cols (prAt cols j (prCell cols x0)) (prCell cols x0)) (prPend cols (prAt cols j (prCell cols x0)) (prCell cols x0) auto) L.length cols = true :=
 ingrid_iff.2 ⟨by omega, ⟨by omega, by have := prCol_lt (j := prAt cols j (prCell cols x0)) (x := prCell cols x0) hc; omega⟩, fun h => by
  have := prPend_at h
  rw [this]; omega⟩
theorem l16does_all (a : Act16) (hT : Tabs w0) (hc : 0 < cols) (hcm : cols ≤ 1000) (hL : 0 < L.length) (hLm : L.length ≤ 1000) (hR : Rect cols L) (hV : AllV L) (hin : inG i j pend L.length cols = true) : ∃ i' j' pd' L', Done16 w0 p p2 cols L i j pend a i' j' pd' L' := by
 obtain ⟨what, n, r, q, auto, ins⟩ := a
 have hing := ingrid_iff.1 hin
 have hi : i < L.length := by omega
 have hj : j < cols := by omega
 by_cases h0 : what = 0
 ·subst h0
  by_cases h1 : wOf r = 1 ∨ wOf r = 2
  ·cases hq : q.ok
   ·exact done16 hin rfl hR hV (fun w rest hS => does16_0q hT hS hc hcm hL hLm hR hV hin h1 hq)
   ·cases hwr : wrapB cols j pend auto (wOf r)
    ·obtain ⟨k1, k2, k3⟩ := printL_keeps (i := i) (j := j) (x0 := ⟨r, 0, 0, 0, wOf r, q⟩) (ins := ins) hR hV hc hj h1 (of_ok (by omega) hq)
     exact done16 (print_in hc hi) k1 k2 k3 (fun w rest hS => does16_0y hT hS hc hcm hL hLm hR hV hin h1 hq hwr)
    ·exact done16 hin rfl hR hV (fun w rest hS => does16_0r hT hS hc hcm hL hLm hR hV hin h1 hq hwr)
  ·exact done16 hin rfl hR hV (fun w rest hS => does16_0w hT hS hc hcm hL hLm hR hV hin (fun h => h1 (.inl h)) (fun h => h1 (.inr h)))
 by_cases h1 : what = 1
 ·subst h1
  have hk : ∀ c0, c0 < cols → (rowMod i (mkRow c0 r) L).length = L.length ∧ Rect cols (rowMod i (mkRow c0 r) L) ∧ AllV (rowMod i (mkRow c0 r) L) := fun c0 h =>
   ⟨rowMod_length _ _ _, hR.rowMod i (fun cs hcs => by rw [mkRow_length]; exact hcs), hV.rowMod i (fun l2 h2 => mkRow_V (hV l2 h2) (by rw [hR l2 h2]; exact h))⟩
  by_cases hw : wOf r = 0
  ·cases pend with
   | true =>
    obtain ⟨k1, k2, k3⟩ := hk j hj
    exact done16 hin k1 k2 k3 (fun w rest hS => does16_1a (c0 := j) hT hS hc hcm hL hLm hR hV hin hw (.inl ⟨rfl, rfl⟩))
   | false =>
    cases j with
    | zero => exact done16 hin rfl hR hV (fun w rest hS => does16_1f hT hS hc hcm hL hLm hR hV hin hw)
    | succ c0 =>
     obtain ⟨k1, k2, k3⟩ := hk c0 (by omega)
     exact done16 hin k1 k2 k3 (fun w rest hS => does16_1a (c0 := c0) hT hS hc hcm hL hLm hR hV hin hw (.inr ⟨rfl, by omega⟩))
  ·exact done16 hin rfl hR hV (fun w rest hS => does16_1w hT hS hc hcm hL hLm hR hV hin hw)
 by_cases h2 : what = 2
 ·subst h2
  by_cases hn : (i : Int) + 1 < (L.length : Int)
  ·exact done16 (ingrid_iff.2 ⟨by omega, by omega, by simp⟩) rfl hR hV (fun w rest hS => does16_2y hT hS hc hcm hL hLm hR hV hin hn)
  ·exact done16 hin rfl hR hV (fun w rest hS => does16_2n hT hS hc hcm hL hLm hR hV hin hn)
 by_cases h3 : what = 3
 ·subst h3
  by_cases hn : (0 : Int) ≤ n ∧ n < (cols : Int)
  ·obtain ⟨m, rfl⟩ : ∃ m : Nat, n = m := ⟨n.toNat, by omega⟩
   exact done16 (ingrid_iff.2 ⟨by omega, by omega, by simp⟩) rfl hR hV (fun w rest hS => does16_3y hT hS hc hcm hL hLm hR hV hin hn.2)
  ·exact done16 hin rfl hR hV (fun w rest hS => does16_3n hT hS hc hcm hL hLm hR hV hin (by omega))
 by_cases h4 : what = 4
 ·subst h4
  by_cases hn : (0 : Int) ≤ n ∧ n < (L.length : Int)
  ·obtain ⟨m, rfl⟩ : ∃ m : Nat, n = m := ⟨n.toNat, by omega⟩
   exact done16 (ingrid_iff.2 ⟨by omega, by omega, by simp⟩) rfl hR hV (fun w rest hS => does16_4y hT hS hc hcm hL hLm hR hV hin hn.2)
  ·exact done16 hin rfl hR hV (fun w rest hS => does16_4n hT hS hc hcm hL hLm hR hV hin (by omega))
 exact done16 hin rfl hR hV (fun w rest hS => does16_else hT hS hc hcm hL hLm hR hV hin h0 h1 h2 h3 h4)
end
end Go.Proofs.YtppijfjigcoifaaDoor

namespace Go.Proofs.YtppijfjigcoifaaDoor
open Go.RowKit

section
variable {w0 w : World} {os : List Ob} {k p cols : Nat} {L : List Ln}
end
end Go.Proofs.YtppijfjigcoifaaDoor

namespace Go.Proofs.YtppijfjigcoifaaDoor
open Go.RowKit

end Go.Proofs.YtppijfjigcoifaaDoor

namespace Go.Proofs.YtppijfjigcoifaaDoor
open Go.RowKit

theorem cv_ne (c : Cell) : ¬ cv c = #[] := by simp [cv]
def k16c (r : Int) : Cell := ⟨r, 0, 0, 0, wOf r, pen0⟩
def k16_c : Cell := ⟨99, 0, 0, 0, 1, pen0⟩
def k16_0 : List Ln := List.replicate 1 (List.replicate 4 (blank pen0), false)
def k16_1 : List Ln := printL 0 0 4 (k16c 97) false k16_0
def k16_2 : List Ln := printL 0 1 4 (k16c 20013) false k16_1
def k16_3 : List Ln := printL 0 3 4 (k16c 98) false k16_2
def k16_4 : List Ln := printL 0 3 4 (k16c 99) false k16_3
def k16_5 : List Ln := rowMod 0 (mkRow 2 769) k16_4
def k16_6 : List Ln := printL 0 0 4 (k16c 122) true k16_5
theorem k16_len0 : k16_0.length = 1 := by decide +kernel
theorem k16_rect0 : Rect 4 k16_0 := by intro l hl; revert l; decide +kernel
theorem k16_len1 : k16_1.length = 1 := by decide +kernel
theorem k16_rect1 : Rect 4 k16_1 := by intro l hl; revert l; decide +kernel
theorem k16_len2 : k16_2.length = 1 := by decide +kernel
theorem k16_rect2 : Rect 4 k16_2 := by intro l hl; revert l; decide +kernel
theorem k16_len3 : k16_3.length = 1 := by decide +kernel
theorem k16_rect3 : Rect 4 k16_3 := by intro l hl; revert l; decide +kernel
theorem k16_len4 : k16_4.length = 1 := by decide +kernel
theorem k16_rect4 : Rect 4 k16_4 := by intro l hl; revert l; decide +kernel
theorem k16_len5 : k16_5.length = 1 := by decide +kernel
theorem k16_rect5 : Rect 4 k16_5 := by intro l hl; revert l; decide +kernel
theorem k16_V4 : rowOk (k16_4[0]'(by rw [k16_len4]; decide)).1 = true := by decide +kernel
theorem k16_row : k16_6[0]? = some ([k16c 122, k16c 97, ⟨20013, 769, 0, 0, 2, pen0⟩, cell0], false) := by decide +kernel
theorem k16_at3 : ((k16_5[0]'(by rw [k16_len5]; decide)).1)[3]? = some k16_c := by decide +kernel
section
variable {w0 w : World} {os : List Ob} {k p : Nat} {L L2 : List Ln} {j nc c0 : Nat} {c1 c2 r : Int} {pend np auto ins : Bool}
theorem k16_print (hT : Tabs w0) (hS : Objs w0 w os) (hk : os[k]? = some (.grid p 58 ((4 : Nat) : Int) L)) (hlen : L.length = 1) (hR : Rect 4 L) (hin : inG ((0 : Nat) : Int) (j : Int) pend 1 4 = true) (hw : 1 ≤ wOf r) (hwr : wrapB 4 j pend auto (wOf r) = false)
  (h1 : prCol 4 (prAt 4 j (prCell 4 (k16c r))) (prCell 4 (k16c r)) = nc) (h2 : prPend 4 (prAt 4 j (prCell 4 (k16c r))) (prCell 4 (k16c r)) auto = np) (h3 : printL 0 j 4 (k16c r) ins L = L2) (hc1 : (j : Int) = c1) (hc2 : (nc : Int) = c2) :
  Calls Tryd.prog 27 #[.pointer (some ⟨p, 0, none⟩), .agg #[.int .i64 0, .int .i64 c1, .bool pend], .int .i32 r, .agg (pv pen0), .bool auto, .bool ins, .agg #[.int .i64 0, .int .i64 c2, .bool np], .int .i64 0] w fun e w' => e = .returned (.bool true) ∧ Objs w0 w' (os.set k (.grid p 58 ((4 : Nat) : Int) L2)) := by
 subst hc1; subst hc2
 have h := prints_yes (i := 0) (j := j) (pend := pend) (auto := auto) (ins := ins) (q := pen0) (r := r) hT hS hk (by decide) (by decide) (by omega) hR (by rw [hlen]; exact hin) hw (by decide +kernel) hwr (k16c r) rfl
 rw [h1, h2, h3] at h
 exact h
theorem k16_wrap (hT : Tabs w0) (hS : Objs w0 w os) (hk : os[k]? = some (.grid p 58 ((4 : Nat) : Int) L)) (hlen : L.length = 1) (hin : inG 0 (j : Int) pend 1 4 = true) (hw : 1 ≤ wOf r) (hwr : wrapB 4 j pend auto (wOf r) = true) (hc1 : (j : Int) = c1) :
  Calls Tryd.prog 27 #[.pointer (some ⟨p, 0, none⟩), .agg #[.int .i64 0, .int .i64 c1, .bool pend], .int .i32 r, .agg (pv pen0), .bool auto, .bool ins, .agg #[.int .i64 0, .int .i64 0, .bool false], .int .i64 8] w fun e w' => e = .returned (.bool true) ∧ Objs w0 w' os := by
 subst hc1
 exact prints_wrap hT hS hk (by decide) (by decide) (by omega) (by rw [hlen]; exact hin) hw (by decide +kernel) hwr
theorem k16_wraps {b : Bool} (hT : Tabs w0) (hS : Objs w0 w os) (hk : os[k]? = some (.grid p 58 ((4 : Nat) : Int) L)) (hlen : L.length = 1) (hin : inG 0 (j : Int) pend 1 4 = true) (hw : 1 ≤ wOf r) (hwr : wrapB 4 j pend auto (wOf r) = b) (hc1 : (j : Int) = c1) :
  Calls Tryd.prog 28 #[.pointer (some ⟨p, 0, none⟩), .agg #[.int .i64 0, .int .i64 c1, .bool pend], .int .i32 r, .bool auto, .bool b, .int .i64 0] w fun e w' => e = .returned (.bool true) ∧ Objs w0 w' os := by
 subst hc1; subst hwr
 exact wraps_yes hT hS hk (by decide) (by decide) (by omega) (by rw [hlen]; exact hin) hw
theorem k16_mark {b : Bool} (hT : Tabs w0) (hS : Objs w0 w os) (hk : os[k]? = some (.grid p 58 ((4 : Nat) : Int) L)) (hlen : L.length = 1) (hR : Rect 4 L) (hV : rowOk (L[0]'(by omega)).1 = true) (hin : inG ((0 : Nat) : Int) c1 false 1 4 = true) (hw : wOf r = 0) (hcol : decide (c1 = (c0 : Int) + 1) = true) (hm : L[0]? = some (L[0]'(by omega))) (hb : mkB (L[0]'(by omega)).1 c0 r = b) (h3 : rowMod 0 (mkRow c0 r) L = L2) (hc : c1 = c1) :
  Calls Tryd.prog 29 #[.pointer (some ⟨p, 0, none⟩), .agg #[.int .i64 0, .int .i64 c1, .bool false], .int .i32 r, .bool b, .int .i64 0] w fun e w' => e = .returned (.bool true) ∧ Objs w0 w' (os.set k (.grid p 58 ((4 : Nat) : Int) L2)) := by
 have h := marks_at (i := 0) (c0 := c0) (col := c1) (pend := false) (r := r) hT hS hk (by decide) (by decide) (by omega) hR (by rw [hlen]; exact hin) hw (.inr ⟨rfl, of_decide_eq_true hcol⟩) hm (rowOk_is.1 hV)
 rw [hb, h3] at h
 exact h
end
set_option maxRecDepth 100000 in
set_option maxHeartbeats 16000000 in
theorem l16known_any (w : World) (hT : Tabs w) : Calls Tryd.prog 30 #[] w fun e w' => e = .returned (.bool true) ∧ Below w.heap.size w w' := by
 have HT := Lib.hid hT
 clear hT
 go_enter Tryd.func30, Tryd.ntmps30
 go_wp2_with fail
 refine (gridNew_yes 1 4 (by decide) (by decide) (by decide) (by decide) w _ [] (objs_start w)).mono ?_
 rintro e w1 ⟨p, rfl, hS⟩
 have T0 := Lib.hid (show Objs w w1 [.grid p 58 ((4 : Nat) : Int) k16_0] from hS)
 clear hS
 go_upto_region 3 with (fail)
 refine at_objsC (T0.out.alloc1 (c1 := pv pen0) (t1 := 54)) (fun W hW => ?_)
 generalize w1.heap.size = b3 at hW ⊢
 have T1 := Lib.hid hW
 clear hW T0
 refine wp_region_stage (w0 := w) (os := []) (by kernel_rfl) (by kernel_rfl) (by kernel_rfl) [(1, 11, [], fun vs => .grid p 58 ((4 : Nat) : Int) k16_1), (1, 19, [], fun vs => .grid p 58 ((4 : Nat) : Int) k16_2), (1, 27, [], fun vs => .grid p 58 ((4 : Nat) : Int) k16_3)] [[], [], [], [], [], [], [], [], [], [0], [], [1], [], [], [], [], [], [0], [], [1], [], [], [], [], [], [0], [], [1], [], [], [], [], [], [1], [], [], [], [], [], [1], [], [], [], [], [], [1], [], []] [.box b3 54 (pv pen0), .grid p 58 ((4 : Nat) : Int) k16_0] (fun opn u => match opn with | 0 => u = pt p 0 | 1 => u = .bool false | 2 => u = .bool false | 3 => u = .int .i64 0 | 4 => u = .bool false | 5 => u = .bool false | 6 => u = .bool false | 7 => u = pt p 0 | 8 => u = .agg #[.int .i64 0, .int .i64 0, .bool false] | 9 => u = .agg (pv pen0) | 10 => u = .agg #[.int .i64 0, .int .i64 1, .bool false] | 11 => u = .bool true | 12 => u = .bool false | 13 => u = .bool false | 14 => u = .bool false | 15 => u = pt p 0 | 16 => u = .agg #[.int .i64 0, .int .i64 1, .bool false] | 17 => u = .agg (pv pen0) | 18 => u = .agg #[.int .i64 0, .int .i64 3, .bool false] | 19 => u = .bool true | 20 => u = .bool false | 21 => u = .bool false | 22 => u = .bool false | 23 => u = pt p 0 | 24 => u = .agg #[.int .i64 0, .int .i64 3, .bool false] | 25 => u = .agg (pv pen0) | 26 => u = .agg #[.int .i64 0, .int .i64 3, .bool true] | 27 => u = .bool true | 28 => u = .bool false | 29 => u = .bool false | 30 => u = .bool false | 31 => u = pt p 0 | 32 => u = .agg #[.int .i64 0, .int .i64 3, .bool true] | 33 => u = .bool true | 34 => u = .bool false | 35 => u = .bool false | 36 => u = .bool false | 37 => u = pt p 0 | 38 => u = .agg #[.int .i64 0, .int .i64 3, .bool false] | 39 => u = .bool true | 40 => u = .bool false | 41 => u = .bool false | 42 => u = .bool false | 43 => u = pt p 0 | 44 => u = .agg #[.int .i64 0, .int .i64 3, .bool false] | 45 => u = .bool true | 46 => u = .bool false | 47 => u = .bool false | _ => True) (fun vs => [.box b3 54 (pv pen0), .grid p 58 ((4 : Nat) : Int) k16_3]) (by kernel_rfl) (fun vs => by rfl) T1.out ?_ ?_
 ·apply sc
  ·intro a w' vs σ hS hl hs hk
   have f1 : a.tmps[1]?.getD undef = .pointer (some ⟨p, 0, none⟩) := sof hk
   exact rp (pt p 0) (by simp [execOp, Act.eval, f1, go_sem]) hl hs hS
  apply sc
  ·intro a w' vs σ hS hl hs hk
   have f12 : a.tmps[12]?.getD undef = .pointer (some ⟨p, 0, none⟩) := sf hk 0
   exact rp (.bool false) (by simp [execOp, Act.eval, f12, go_sem]) hl hs hS
  apply sc
  ·intro a w' vs σ hS hl hs hk
   have f13 : a.tmps[13]?.getD undef = .bool false := sf hk 1
   exact rp (.bool false) (by simp [execOp, Act.eval, f13, go_sem]) hl hs hS
  apply sc
  ·intro a w' vs σ hS hl hs hk
   have f2 : a.tmps[2]?.getD undef = .int .i64 0 := sof hk
   exact rq (.int .i64 0) (wanted_yes rfl rfl rfl (sv hk 2)) (by simp [execOp, Act.eval, f2, go_sem]) hl hs hS
  apply sc
  ·intro a w' vs σ hS hl hs hk
   have f15 : a.tmps[15]?.getD undef = .int .i64 0 := sf hk 3
   exact rq (.bool false) (wanted_yes rfl rfl rfl (sv hk 2)) (by simp [execOp, Act.eval, f15, go_sem]) hl hs hS
  apply sc
  ·intro a w' vs σ hS hl hs hk
   have f14 : a.tmps[14]?.getD undef = .bool false := sf hk 2
   have f16 : a.tmps[16]?.getD undef = .bool false := sf hk 4
   exact rp (.bool false) (by simp [execOp, Act.eval, f14, f16, go_sem]) hl hs hS
  apply sc
  ·intro a w' vs σ hS hl hs hk
   have f17 : a.tmps[17]?.getD undef = .bool false := sf hk 5
   exact rp (.bool false) (by simp [execOp, Act.eval, f17, go_sem]) hl hs hS
  apply sc
  ·intro a w' vs σ hS hl hs hk
   have f1 : a.tmps[1]?.getD undef = .pointer (some ⟨p, 0, none⟩) := sof hk
   exact rq (pt p 0) (wanted_yes rfl rfl rfl (sv hk 6)) (by simp [execOp, Act.eval, f1, go_sem]) hl hs hS
  apply sc
  ·intro a w' vs σ hS hl hs hk
   exact ro_call (f := 64) (wanted_yes rfl rfl rfl (sv hk 6)) rfl (by simp only [List.map_toArray, List.map_cons, List.map_nil, Act.eval] <;> rfl) (fun _ _ => by kernel_rfl) ((l16at_any 0 false hS).mono fun e w2 ⟨h1, h2⟩ => ⟨_, h1, sp_same (by kernel_rfl) hl hs h2 rfl, trivial⟩)
  apply sc
  ·intro a w' vs σ hS hl hs hk
   have f3 : a.tmps[3]?.getD undef = .pointer (some ⟨b3, 0, none⟩) := sof hk
   have hx := (hS.box (sg (hs 0 (by decide)))).penAt
   exact rq (.agg (pv pen0)) (wanted_yes rfl rfl rfl (sv hk 6)) (by simp [execOp, Act.eval, f3, go_sem, hx]) hl hs hS
  apply sc
  ·intro a w' vs σ hS hl hs hk
   exact ro_call (f := 64) (wanted_yes rfl rfl rfl (sv hk 6)) rfl (by simp only [List.map_toArray, List.map_cons, List.map_nil, Act.eval] <;> rfl) (fun _ _ => by kernel_rfl) ((l16at_any 1 false hS).mono fun e w2 ⟨h1, h2⟩ => ⟨_, h1, sp_same (by kernel_rfl) hl hs h2 rfl, trivial⟩)
  apply sc
  ·intro a w' vs σ hS hl hs hk
   have e19 : a.tmps.getD 19 undef = .pointer (some ⟨p, 0, none⟩) := sv hk 7
   have e20 : a.tmps.getD 20 undef = .agg #[.int .i64 0, .int .i64 0, .bool false] := sv hk 8
   have e21 : a.tmps.getD 21 undef = .agg (pv pen0) := sv hk 9
   have e22 : a.tmps.getD 22 undef = .agg #[.int .i64 0, .int .i64 1, .bool false] := sv hk 10
   exact ro_call (f := 27) (wanted_yes rfl rfl rfl (sv hk 6)) rfl (by simp only [List.map_toArray, List.map_cons, List.map_nil, Act.eval, e19, e20, e21, e22] <;> rfl) (fun _ _ => by kernel_rfl) ((k16_print (j := 0) HT.out hS (k := 1) (sg (hs 1 (by decide))) k16_len0 k16_rect0 (by decide +kernel) (by decide +kernel) (by decide +kernel) (by decide +kernel) (by decide +kernel) rfl rfl rfl).mono fun e w2 ⟨h1, h2⟩ => ⟨_, h1, sp_set 1 (.grid p 58 ((4 : Nat) : Int) k16_1) (by kernel_rfl) (by simp) (by decide) hl hs (by rfl) h2 rfl, trivial⟩)
  apply sc
  ·intro a w' vs σ hS hl hs hk
   have f23 : a.tmps[23]?.getD undef = .bool true := sf hk 11
   exact rq (.bool false) (wanted_yes rfl rfl rfl (sv hk 6)) (by simp [execOp, Act.eval, f23, go_sem]) hl hs hS
  apply sc
  ·intro a w' vs σ hS hl hs hk
   have f18 : a.tmps[18]?.getD undef = .bool false := sf hk 6
   have f24 : a.tmps[24]?.getD undef = .bool false := sf hk 12
   exact rp (.bool false) (by simp [execOp, Act.eval, f18, f24, go_sem]) hl hs hS
  apply sc
  ·intro a w' vs σ hS hl hs hk
   have f25 : a.tmps[25]?.getD undef = .bool false := sf hk 13
   exact rp (.bool false) (by simp [execOp, Act.eval, f25, go_sem]) hl hs hS
  apply sc
  ·intro a w' vs σ hS hl hs hk
   have f1 : a.tmps[1]?.getD undef = .pointer (some ⟨p, 0, none⟩) := sof hk
   exact rq (pt p 0) (wanted_yes rfl rfl rfl (sv hk 14)) (by simp [execOp, Act.eval, f1, go_sem]) hl hs hS
  apply sc
  ·intro a w' vs σ hS hl hs hk
   exact ro_call (f := 64) (wanted_yes rfl rfl rfl (sv hk 14)) rfl (by simp only [List.map_toArray, List.map_cons, List.map_nil, Act.eval] <;> rfl) (fun _ _ => by kernel_rfl) ((l16at_any 1 false hS).mono fun e w2 ⟨h1, h2⟩ => ⟨_, h1, sp_same (by kernel_rfl) hl hs h2 rfl, trivial⟩)
  apply sc
  ·intro a w' vs σ hS hl hs hk
   have f3 : a.tmps[3]?.getD undef = .pointer (some ⟨b3, 0, none⟩) := sof hk
   have hx := (hS.box (sg (hs 0 (by decide)))).penAt
   exact rq (.agg (pv pen0)) (wanted_yes rfl rfl rfl (sv hk 14)) (by simp [execOp, Act.eval, f3, go_sem, hx]) hl hs hS
  apply sc
  ·intro a w' vs σ hS hl hs hk
   exact ro_call (f := 64) (wanted_yes rfl rfl rfl (sv hk 14)) rfl (by simp only [List.map_toArray, List.map_cons, List.map_nil, Act.eval] <;> rfl) (fun _ _ => by kernel_rfl) ((l16at_any 3 false hS).mono fun e w2 ⟨h1, h2⟩ => ⟨_, h1, sp_same (by kernel_rfl) hl hs h2 rfl, trivial⟩)
  apply sc
  ·intro a w' vs σ hS hl hs hk
   have e27 : a.tmps.getD 27 undef = .pointer (some ⟨p, 0, none⟩) := sv hk 15
   have e28 : a.tmps.getD 28 undef = .agg #[.int .i64 0, .int .i64 1, .bool false] := sv hk 16
   have e29 : a.tmps.getD 29 undef = .agg (pv pen0) := sv hk 17
   have e30 : a.tmps.getD 30 undef = .agg #[.int .i64 0, .int .i64 3, .bool false] := sv hk 18
   exact ro_call (f := 27) (wanted_yes rfl rfl rfl (sv hk 14)) rfl (by simp only [List.map_toArray, List.map_cons, List.map_nil, Act.eval, e27, e28, e29, e30] <;> rfl) (fun _ _ => by kernel_rfl) ((k16_print (j := 1) HT.out hS (k := 1) (sg (hs 1 (by decide))) k16_len1 k16_rect1 (by decide +kernel) (by decide +kernel) (by decide +kernel) (by decide +kernel) (by decide +kernel) rfl rfl rfl).mono fun e w2 ⟨h1, h2⟩ => ⟨_, h1, sp_set 1 (.grid p 58 ((4 : Nat) : Int) k16_2) (by kernel_rfl) (by simp) (by decide) hl hs (by rfl) h2 rfl, trivial⟩)
  apply sc
  ·intro a w' vs σ hS hl hs hk
   have f31 : a.tmps[31]?.getD undef = .bool true := sf hk 19
   exact rq (.bool false) (wanted_yes rfl rfl rfl (sv hk 14)) (by simp [execOp, Act.eval, f31, go_sem]) hl hs hS
  apply sc
  ·intro a w' vs σ hS hl hs hk
   have f26 : a.tmps[26]?.getD undef = .bool false := sf hk 14
   have f32 : a.tmps[32]?.getD undef = .bool false := sf hk 20
   exact rp (.bool false) (by simp [execOp, Act.eval, f26, f32, go_sem]) hl hs hS
  apply sc
  ·intro a w' vs σ hS hl hs hk
   have f33 : a.tmps[33]?.getD undef = .bool false := sf hk 21
   exact rp (.bool false) (by simp [execOp, Act.eval, f33, go_sem]) hl hs hS
  apply sc
  ·intro a w' vs σ hS hl hs hk
   have f1 : a.tmps[1]?.getD undef = .pointer (some ⟨p, 0, none⟩) := sof hk
   exact rq (pt p 0) (wanted_yes rfl rfl rfl (sv hk 22)) (by simp [execOp, Act.eval, f1, go_sem]) hl hs hS
  apply sc
  ·intro a w' vs σ hS hl hs hk
   exact ro_call (f := 64) (wanted_yes rfl rfl rfl (sv hk 22)) rfl (by simp only [List.map_toArray, List.map_cons, List.map_nil, Act.eval] <;> rfl) (fun _ _ => by kernel_rfl) ((l16at_any 3 false hS).mono fun e w2 ⟨h1, h2⟩ => ⟨_, h1, sp_same (by kernel_rfl) hl hs h2 rfl, trivial⟩)
  apply sc
  ·intro a w' vs σ hS hl hs hk
   have f3 : a.tmps[3]?.getD undef = .pointer (some ⟨b3, 0, none⟩) := sof hk
   have hx := (hS.box (sg (hs 0 (by decide)))).penAt
   exact rq (.agg (pv pen0)) (wanted_yes rfl rfl rfl (sv hk 22)) (by simp [execOp, Act.eval, f3, go_sem, hx]) hl hs hS
  apply sc
  ·intro a w' vs σ hS hl hs hk
   exact ro_call (f := 64) (wanted_yes rfl rfl rfl (sv hk 22)) rfl (by simp only [List.map_toArray, List.map_cons, List.map_nil, Act.eval] <;> rfl) (fun _ _ => by kernel_rfl) ((l16at_any 3 true hS).mono fun e w2 ⟨h1, h2⟩ => ⟨_, h1, sp_same (by kernel_rfl) hl hs h2 rfl, trivial⟩)
  apply sc
  ·intro a w' vs σ hS hl hs hk
   have e35 : a.tmps.getD 35 undef = .pointer (some ⟨p, 0, none⟩) := sv hk 23
   have e36 : a.tmps.getD 36 undef = .agg #[.int .i64 0, .int .i64 3, .bool false] := sv hk 24
   have e37 : a.tmps.getD 37 undef = .agg (pv pen0) := sv hk 25
   have e38 : a.tmps.getD 38 undef = .agg #[.int .i64 0, .int .i64 3, .bool true] := sv hk 26
   exact ro_call (f := 27) (wanted_yes rfl rfl rfl (sv hk 22)) rfl (by simp only [List.map_toArray, List.map_cons, List.map_nil, Act.eval, e35, e36, e37, e38] <;> rfl) (fun _ _ => by kernel_rfl) ((k16_print (j := 3) HT.out hS (k := 1) (sg (hs 1 (by decide))) k16_len2 k16_rect2 (by decide +kernel) (by decide +kernel) (by decide +kernel) (by decide +kernel) (by decide +kernel) rfl rfl rfl).mono fun e w2 ⟨h1, h2⟩ => ⟨_, h1, sp_set 1 (.grid p 58 ((4 : Nat) : Int) k16_3) (by kernel_rfl) (by simp) (by decide) hl hs (by rfl) h2 rfl, trivial⟩)
  apply sc
  ·intro a w' vs σ hS hl hs hk
   have f39 : a.tmps[39]?.getD undef = .bool true := sf hk 27
   exact rq (.bool false) (wanted_yes rfl rfl rfl (sv hk 22)) (by simp [execOp, Act.eval, f39, go_sem]) hl hs hS
  apply sc
  ·intro a w' vs σ hS hl hs hk
   have f34 : a.tmps[34]?.getD undef = .bool false := sf hk 22
   have f40 : a.tmps[40]?.getD undef = .bool false := sf hk 28
   exact rp (.bool false) (by simp [execOp, Act.eval, f34, f40, go_sem]) hl hs hS
  apply sc
  ·intro a w' vs σ hS hl hs hk
   have f41 : a.tmps[41]?.getD undef = .bool false := sf hk 29
   exact rp (.bool false) (by simp [execOp, Act.eval, f41, go_sem]) hl hs hS
  apply sc
  ·intro a w' vs σ hS hl hs hk
   have f1 : a.tmps[1]?.getD undef = .pointer (some ⟨p, 0, none⟩) := sof hk
   exact rq (pt p 0) (wanted_yes rfl rfl rfl (sv hk 30)) (by simp [execOp, Act.eval, f1, go_sem]) hl hs hS
  apply sc
  ·intro a w' vs σ hS hl hs hk
   exact ro_call (f := 64) (wanted_yes rfl rfl rfl (sv hk 30)) rfl (by simp only [List.map_toArray, List.map_cons, List.map_nil, Act.eval] <;> rfl) (fun _ _ => by kernel_rfl) ((l16at_any 3 true hS).mono fun e w2 ⟨h1, h2⟩ => ⟨_, h1, sp_same (by kernel_rfl) hl hs h2 rfl, trivial⟩)
  apply sc
  ·intro a w' vs σ hS hl hs hk
   have e43 : a.tmps.getD 43 undef = .pointer (some ⟨p, 0, none⟩) := sv hk 31
   have e44 : a.tmps.getD 44 undef = .agg #[.int .i64 0, .int .i64 3, .bool true] := sv hk 32
   exact ro_call (f := 28) (wanted_yes rfl rfl rfl (sv hk 30)) rfl (by simp only [List.map_toArray, List.map_cons, List.map_nil, Act.eval, e43, e44] <;> rfl) (fun _ _ => by kernel_rfl) ((k16_wraps (j := 3) HT.out hS (k := 1) (sg (hs 1 (by decide))) k16_len3 (by decide +kernel) (by decide +kernel) (by decide +kernel) rfl).mono fun e w2 ⟨h1, h2⟩ => ⟨_, h1, sp_same (by kernel_rfl) hl hs h2 rfl, trivial⟩)
  apply sc
  ·intro a w' vs σ hS hl hs hk
   have f45 : a.tmps[45]?.getD undef = .bool true := sf hk 33
   exact rq (.bool false) (wanted_yes rfl rfl rfl (sv hk 30)) (by simp [execOp, Act.eval, f45, go_sem]) hl hs hS
  apply sc
  ·intro a w' vs σ hS hl hs hk
   have f42 : a.tmps[42]?.getD undef = .bool false := sf hk 30
   have f46 : a.tmps[46]?.getD undef = .bool false := sf hk 34
   exact rp (.bool false) (by simp [execOp, Act.eval, f42, f46, go_sem]) hl hs hS
  apply sc
  ·intro a w' vs σ hS hl hs hk
   have f47 : a.tmps[47]?.getD undef = .bool false := sf hk 35
   exact rp (.bool false) (by simp [execOp, Act.eval, f47, go_sem]) hl hs hS
  apply sc
  ·intro a w' vs σ hS hl hs hk
   have f1 : a.tmps[1]?.getD undef = .pointer (some ⟨p, 0, none⟩) := sof hk
   exact rq (pt p 0) (wanted_yes rfl rfl rfl (sv hk 36)) (by simp [execOp, Act.eval, f1, go_sem]) hl hs hS
  apply sc
  ·intro a w' vs σ hS hl hs hk
   exact ro_call (f := 64) (wanted_yes rfl rfl rfl (sv hk 36)) rfl (by simp only [List.map_toArray, List.map_cons, List.map_nil, Act.eval] <;> rfl) (fun _ _ => by kernel_rfl) ((l16at_any 3 false hS).mono fun e w2 ⟨h1, h2⟩ => ⟨_, h1, sp_same (by kernel_rfl) hl hs h2 rfl, trivial⟩)
  apply sc
  ·intro a w' vs σ hS hl hs hk
   have e49 : a.tmps.getD 49 undef = .pointer (some ⟨p, 0, none⟩) := sv hk 37
   have e50 : a.tmps.getD 50 undef = .agg #[.int .i64 0, .int .i64 3, .bool false] := sv hk 38
   exact ro_call (f := 28) (wanted_yes rfl rfl rfl (sv hk 36)) rfl (by simp only [List.map_toArray, List.map_cons, List.map_nil, Act.eval, e49, e50] <;> rfl) (fun _ _ => by kernel_rfl) ((k16_wraps (j := 3) HT.out hS (k := 1) (sg (hs 1 (by decide))) k16_len3 (by decide +kernel) (by decide +kernel) (by decide +kernel) rfl).mono fun e w2 ⟨h1, h2⟩ => ⟨_, h1, sp_same (by kernel_rfl) hl hs h2 rfl, trivial⟩)
  apply sc
  ·intro a w' vs σ hS hl hs hk
   have f51 : a.tmps[51]?.getD undef = .bool true := sf hk 39
   exact rq (.bool false) (wanted_yes rfl rfl rfl (sv hk 36)) (by simp [execOp, Act.eval, f51, go_sem]) hl hs hS
  apply sc
  ·intro a w' vs σ hS hl hs hk
   have f48 : a.tmps[48]?.getD undef = .bool false := sf hk 36
   have f52 : a.tmps[52]?.getD undef = .bool false := sf hk 40
   exact rp (.bool false) (by simp [execOp, Act.eval, f48, f52, go_sem]) hl hs hS
  apply sc
  ·intro a w' vs σ hS hl hs hk
   have f53 : a.tmps[53]?.getD undef = .bool false := sf hk 41
   exact rp (.bool false) (by simp [execOp, Act.eval, f53, go_sem]) hl hs hS
  apply sc
  ·intro a w' vs σ hS hl hs hk
   have f1 : a.tmps[1]?.getD undef = .pointer (some ⟨p, 0, none⟩) := sof hk
   exact rq (pt p 0) (wanted_yes rfl rfl rfl (sv hk 42)) (by simp [execOp, Act.eval, f1, go_sem]) hl hs hS
  apply sc
  ·intro a w' vs σ hS hl hs hk
   exact ro_call (f := 64) (wanted_yes rfl rfl rfl (sv hk 42)) rfl (by simp only [List.map_toArray, List.map_cons, List.map_nil, Act.eval] <;> rfl) (fun _ _ => by kernel_rfl) ((l16at_any 3 false hS).mono fun e w2 ⟨h1, h2⟩ => ⟨_, h1, sp_same (by kernel_rfl) hl hs h2 rfl, trivial⟩)
  apply sc
  ·intro a w' vs σ hS hl hs hk
   have e55 : a.tmps.getD 55 undef = .pointer (some ⟨p, 0, none⟩) := sv hk 43
   have e56 : a.tmps.getD 56 undef = .agg #[.int .i64 0, .int .i64 3, .bool false] := sv hk 44
   exact ro_call (f := 28) (wanted_yes rfl rfl rfl (sv hk 42)) rfl (by simp only [List.map_toArray, List.map_cons, List.map_nil, Act.eval, e55, e56] <;> rfl) (fun _ _ => by kernel_rfl) ((k16_wraps (j := 3) HT.out hS (k := 1) (sg (hs 1 (by decide))) k16_len3 (by decide +kernel) (by decide +kernel) (by decide +kernel) rfl).mono fun e w2 ⟨h1, h2⟩ => ⟨_, h1, sp_same (by kernel_rfl) hl hs h2 rfl, trivial⟩)
  apply sc
  ·intro a w' vs σ hS hl hs hk
   have f57 : a.tmps[57]?.getD undef = .bool true := sf hk 45
   exact rq (.bool false) (wanted_yes rfl rfl rfl (sv hk 42)) (by simp [execOp, Act.eval, f57, go_sem]) hl hs hS
  apply sc
  ·intro a w' vs σ hS hl hs hk
   have f54 : a.tmps[54]?.getD undef = .bool false := sf hk 42
   have f58 : a.tmps[58]?.getD undef = .bool false := sf hk 46
   exact rp (.bool false) (by simp [execOp, Act.eval, f54, f58, go_sem]) hl hs hS
  exact SSteps.nil
 ·intro vs w' hS hv
  have q0 : vs 0 = _ := hv 0 (by decide)
  have q1 : vs 1 = _ := hv 1 (by decide)
  have q2 : vs 2 = _ := hv 2 (by decide)
  have q3 : vs 3 = _ := hv 3 (by decide)
  have q4 : vs 4 = _ := hv 4 (by decide)
  have q5 : vs 5 = _ := hv 5 (by decide)
  have q6 : vs 6 = _ := hv 6 (by decide)
  have q7 : vs 7 = _ := hv 7 (by decide)
  have q8 : vs 8 = _ := hv 8 (by decide)
  have q9 : vs 9 = _ := hv 9 (by decide)
  have q10 : vs 10 = _ := hv 10 (by decide)
  have q11 : vs 11 = _ := hv 11 (by decide)
  have q12 : vs 12 = _ := hv 12 (by decide)
  have q13 : vs 13 = _ := hv 13 (by decide)
  have q14 : vs 14 = _ := hv 14 (by decide)
  have q15 : vs 15 = _ := hv 15 (by decide)
  have q16 : vs 16 = _ := hv 16 (by decide)
  have q17 : vs 17 = _ := hv 17 (by decide)
  have q18 : vs 18 = _ := hv 18 (by decide)
  have q19 : vs 19 = _ := hv 19 (by decide)
  have q20 : vs 20 = _ := hv 20 (by decide)
  have q21 : vs 21 = _ := hv 21 (by decide)
  have q22 : vs 22 = _ := hv 22 (by decide)
  have q23 : vs 23 = _ := hv 23 (by decide)
  have q24 : vs 24 = _ := hv 24 (by decide)
  have q25 : vs 25 = _ := hv 25 (by decide)
  have q26 : vs 26 = _ := hv 26 (by decide)
  have q27 : vs 27 = _ := hv 27 (by decide)
  have q28 : vs 28 = _ := hv 28 (by decide)
  have q29 : vs 29 = _ := hv 29 (by decide)
  have q30 : vs 30 = _ := hv 30 (by decide)
  have q31 : vs 31 = _ := hv 31 (by decide)
  have q32 : vs 32 = _ := hv 32 (by decide)
  have q33 : vs 33 = _ := hv 33 (by decide)
  have q34 : vs 34 = _ := hv 34 (by decide)
  have q35 : vs 35 = _ := hv 35 (by decide)
  have q36 : vs 36 = _ := hv 36 (by decide)
  have q37 : vs 37 = _ := hv 37 (by decide)
  have q38 : vs 38 = _ := hv 38 (by decide)
  have q39 : vs 39 = _ := hv 39 (by decide)
  have q40 : vs 40 = _ := hv 40 (by decide)
  have q41 : vs 41 = _ := hv 41 (by decide)
  have q42 : vs 42 = _ := hv 42 (by decide)
  have q43 : vs 43 = _ := hv 43 (by decide)
  have q44 : vs 44 = _ := hv 44 (by decide)
  have q45 : vs 45 = _ := hv 45 (by decide)
  have q46 : vs 46 = _ := hv 46 (by decide)
  have q47 : vs 47 = _ := hv 47 (by decide)
  have S2 := Lib.hid hS
  simp only [putL, Act.put, Nat.zero_add, Nat.reduceAdd, List.setIfInBounds_toArray, List.set_cons_succ, List.set_cons_zero, q0, q1, q2, q3, q4, q5, q6, q7, q8, q9, q10, q11, q12, q13, q14, q15, q16, q17, q18, q19, q20, q21, q22, q23, q24, q25, q26, q27, q28, q29, q30, q31, q32, q33, q34, q35, q36, q37, q38, q39, q40, q41, q42, q43, q44, q45, q46, q47]
  clear hS hv q0 q1 q2 q3 q4 q5 q6 q7 q8 q9 q10 q11 q12 q13 q14 q15 q16 q17 q18 q19 q20 q21 q22 q23 q24 q25 q26 q27 q28 q29 q30 q31 q32 q33 q34 q35 q36 q37 q38 q39 q40 q41 q42 q43 q44 q45 q46 q47
  have T2 := S2
  clear S2 T1
  go_upto_region 5 with (fail)
  refine wp_region_stage (w0 := w) (os := []) (by kernel_rfl) (by kernel_rfl) (by kernel_rfl) [(1, 11, [], fun vs => .grid p 58 ((4 : Nat) : Int) k16_4), (1, 17, [], fun vs => .grid p 58 ((4 : Nat) : Int) k16_5)] [[], [], [0], [], [1], [], [], [], [], [0], [], [1], [], [], [], [], [], [1], [], [], [], [], [], [1], [], [], [], [], [], [1], [], []] [.box b3 54 (pv pen0), .grid p 58 ((4 : Nat) : Int) k16_3] (fun opn u => match opn with | 0 => u = pt p 0 | 1 => u = .agg #[.int .i64 0, .int .i64 3, .bool true] | 2 => u = .agg (pv pen0) | 3 => u = .agg #[.int .i64 0, .int .i64 0, .bool false] | 4 => u = .bool true | 5 => u = .bool false | 6 => u = .bool false | 7 => u = pt p 0 | 8 => u = .agg #[.int .i64 0, .int .i64 3, .bool true] | 9 => u = .agg (pv pen0) | 10 => u = .agg #[.int .i64 0, .int .i64 3, .bool false] | 11 => u = .bool true | 12 => u = .bool false | 13 => u = .bool false | 14 => u = .bool false | 15 => u = pt p 0 | 16 => u = .agg #[.int .i64 0, .int .i64 3, .bool false] | 17 => u = .bool true | 18 => u = .bool false | 19 => u = .bool false | 20 => u = .bool false | 21 => u = pt p 0 | 22 => u = .agg #[.int .i64 0, .int .i64 0, .bool false] | 23 => u = .bool true | 24 => u = .bool false | 25 => u = .bool false | 26 => u = .bool false | 27 => u = pt p 0 | 28 => u = .agg #[.int .i64 0, .int .i64 3, .bool false] | 29 => u = .bool true | 30 => u = .bool false | 31 => u = .bool false | _ => True) (fun vs => [.box b3 54 (pv pen0), .grid p 58 ((4 : Nat) : Int) k16_5]) (by kernel_rfl) (fun vs => by rfl) T2.out ?_ ?_
  ·apply sc
   ·intro a w' vs σ hS hl hs hk
    have f1 : a.tmps[1]?.getD undef = .pointer (some ⟨p, 0, none⟩) := sof hk
    exact rp (pt p 0) (by simp [execOp, Act.eval, f1, go_sem]) hl hs hS
   apply sc
   ·intro a w' vs σ hS hl hs hk
    exact ro_call (f := 64) (wanted_none rfl) rfl (by simp only [List.map_toArray, List.map_cons, List.map_nil, Act.eval] <;> rfl) (fun _ _ => by kernel_rfl) ((l16at_any 3 true hS).mono fun e w2 ⟨h1, h2⟩ => ⟨_, h1, sp_same (by kernel_rfl) hl hs h2 rfl, trivial⟩)
   apply sc
   ·intro a w' vs σ hS hl hs hk
    have f3 : a.tmps[3]?.getD undef = .pointer (some ⟨b3, 0, none⟩) := sof hk
    have hx := (hS.box (sg (hs 0 (by decide)))).penAt
    exact rp (.agg (pv pen0)) (by simp [execOp, Act.eval, f3, go_sem, hx]) hl hs hS
   apply sc
   ·intro a w' vs σ hS hl hs hk
    exact rp (.agg #[.int .i64 0, .int .i64 0, .bool false]) (by simp [execOp, Act.eval, go_sem]) hl hs hS
   apply sc
   ·intro a w' vs σ hS hl hs hk
    have e60 : a.tmps.getD 60 undef = .pointer (some ⟨p, 0, none⟩) := sv hk 0
    have e61 : a.tmps.getD 61 undef = .agg #[.int .i64 0, .int .i64 3, .bool true] := sv hk 1
    have e62 : a.tmps.getD 62 undef = .agg (pv pen0) := sv hk 2
    have e63 : a.tmps.getD 63 undef = .agg #[.int .i64 0, .int .i64 0, .bool false] := sv hk 3
    exact ro_call (f := 27) (wanted_none rfl) rfl (by simp only [List.map_toArray, List.map_cons, List.map_nil, Act.eval, e60, e61, e62, e63] <;> rfl) (fun _ _ => by kernel_rfl) ((k16_wrap (j := 3) HT.out hS (k := 1) (sg (hs 1 (by decide))) k16_len3 (by decide +kernel) (by decide +kernel) (by decide +kernel) rfl).mono fun e w2 ⟨h1, h2⟩ => ⟨_, h1, sp_same (by kernel_rfl) hl hs h2 rfl, trivial⟩)
   apply sc
   ·intro a w' vs σ hS hl hs hk
    have f64 : a.tmps[64]?.getD undef = .bool true := sf hk 4
    exact rp (.bool false) (by simp [execOp, Act.eval, f64, go_sem]) hl hs hS
   apply sc
   ·intro a w' vs σ hS hl hs hk
    have f65 : a.tmps[65]?.getD undef = .bool false := sf hk 5
    exact rp (.bool false) (by simp [execOp, Act.eval, f65, go_sem]) hl hs hS
   apply sc
   ·intro a w' vs σ hS hl hs hk
    have f1 : a.tmps[1]?.getD undef = .pointer (some ⟨p, 0, none⟩) := sof hk
    exact rq (pt p 0) (wanted_yes rfl rfl rfl (sv hk 6)) (by simp [execOp, Act.eval, f1, go_sem]) hl hs hS
   apply sc
   ·intro a w' vs σ hS hl hs hk
    exact ro_call (f := 64) (wanted_yes rfl rfl rfl (sv hk 6)) rfl (by simp only [List.map_toArray, List.map_cons, List.map_nil, Act.eval] <;> rfl) (fun _ _ => by kernel_rfl) ((l16at_any 3 true hS).mono fun e w2 ⟨h1, h2⟩ => ⟨_, h1, sp_same (by kernel_rfl) hl hs h2 rfl, trivial⟩)
   apply sc
   ·intro a w' vs σ hS hl hs hk
    have f3 : a.tmps[3]?.getD undef = .pointer (some ⟨b3, 0, none⟩) := sof hk
    have hx := (hS.box (sg (hs 0 (by decide)))).penAt
    exact rq (.agg (pv pen0)) (wanted_yes rfl rfl rfl (sv hk 6)) (by simp [execOp, Act.eval, f3, go_sem, hx]) hl hs hS
   apply sc
   ·intro a w' vs σ hS hl hs hk
    exact ro_call (f := 64) (wanted_yes rfl rfl rfl (sv hk 6)) rfl (by simp only [List.map_toArray, List.map_cons, List.map_nil, Act.eval] <;> rfl) (fun _ _ => by kernel_rfl) ((l16at_any 3 false hS).mono fun e w2 ⟨h1, h2⟩ => ⟨_, h1, sp_same (by kernel_rfl) hl hs h2 rfl, trivial⟩)
   apply sc
   ·intro a w' vs σ hS hl hs hk
    have e67 : a.tmps.getD 67 undef = .pointer (some ⟨p, 0, none⟩) := sv hk 7
    have e68 : a.tmps.getD 68 undef = .agg #[.int .i64 0, .int .i64 3, .bool true] := sv hk 8
    have e69 : a.tmps.getD 69 undef = .agg (pv pen0) := sv hk 9
    have e70 : a.tmps.getD 70 undef = .agg #[.int .i64 0, .int .i64 3, .bool false] := sv hk 10
    exact ro_call (f := 27) (wanted_yes rfl rfl rfl (sv hk 6)) rfl (by simp only [List.map_toArray, List.map_cons, List.map_nil, Act.eval, e67, e68, e69, e70] <;> rfl) (fun _ _ => by kernel_rfl) ((k16_print (j := 3) HT.out hS (k := 1) (sg (hs 1 (by decide))) k16_len3 k16_rect3 (by decide +kernel) (by decide +kernel) (by decide +kernel) (by decide +kernel) (by decide +kernel) rfl rfl rfl).mono fun e w2 ⟨h1, h2⟩ => ⟨_, h1, sp_set 1 (.grid p 58 ((4 : Nat) : Int) k16_4) (by kernel_rfl) (by simp) (by decide) hl hs (by rfl) h2 rfl, trivial⟩)
   apply sc
   ·intro a w' vs σ hS hl hs hk
    have f71 : a.tmps[71]?.getD undef = .bool true := sf hk 11
    exact rq (.bool false) (wanted_yes rfl rfl rfl (sv hk 6)) (by simp [execOp, Act.eval, f71, go_sem]) hl hs hS
   apply sc
   ·intro a w' vs σ hS hl hs hk
    have f66 : a.tmps[66]?.getD undef = .bool false := sf hk 6
    have f72 : a.tmps[72]?.getD undef = .bool false := sf hk 12
    exact rp (.bool false) (by simp [execOp, Act.eval, f66, f72, go_sem]) hl hs hS
   apply sc
   ·intro a w' vs σ hS hl hs hk
    have f73 : a.tmps[73]?.getD undef = .bool false := sf hk 13
    exact rp (.bool false) (by simp [execOp, Act.eval, f73, go_sem]) hl hs hS
   apply sc
   ·intro a w' vs σ hS hl hs hk
    have f1 : a.tmps[1]?.getD undef = .pointer (some ⟨p, 0, none⟩) := sof hk
    exact rq (pt p 0) (wanted_yes rfl rfl rfl (sv hk 14)) (by simp [execOp, Act.eval, f1, go_sem]) hl hs hS
   apply sc
   ·intro a w' vs σ hS hl hs hk
    exact ro_call (f := 64) (wanted_yes rfl rfl rfl (sv hk 14)) rfl (by simp only [List.map_toArray, List.map_cons, List.map_nil, Act.eval] <;> rfl) (fun _ _ => by kernel_rfl) ((l16at_any 3 false hS).mono fun e w2 ⟨h1, h2⟩ => ⟨_, h1, sp_same (by kernel_rfl) hl hs h2 rfl, trivial⟩)
   apply sc
   ·intro a w' vs σ hS hl hs hk
    have e75 : a.tmps.getD 75 undef = .pointer (some ⟨p, 0, none⟩) := sv hk 15
    have e76 : a.tmps.getD 76 undef = .agg #[.int .i64 0, .int .i64 3, .bool false] := sv hk 16
    exact ro_call (f := 29) (wanted_yes rfl rfl rfl (sv hk 14)) rfl (by simp only [List.map_toArray, List.map_cons, List.map_nil, Act.eval, e75, e76] <;> rfl) (fun _ _ => by kernel_rfl) ((k16_mark (c0 := 2) HT.out hS (k := 1) (sg (hs 1 (by decide))) k16_len4 k16_rect4 k16_V4 (by decide +kernel) (by decide +kernel) (by decide +kernel) rfl (by decide +kernel) rfl rfl).mono fun e w2 ⟨h1, h2⟩ => ⟨_, h1, sp_set 1 (.grid p 58 ((4 : Nat) : Int) k16_5) (by kernel_rfl) (by simp) (by decide) hl hs (by rfl) h2 rfl, trivial⟩)
   apply sc
   ·intro a w' vs σ hS hl hs hk
    have f77 : a.tmps[77]?.getD undef = .bool true := sf hk 17
    exact rq (.bool false) (wanted_yes rfl rfl rfl (sv hk 14)) (by simp [execOp, Act.eval, f77, go_sem]) hl hs hS
   apply sc
   ·intro a w' vs σ hS hl hs hk
    have f74 : a.tmps[74]?.getD undef = .bool false := sf hk 14
    have f78 : a.tmps[78]?.getD undef = .bool false := sf hk 18
    exact rp (.bool false) (by simp [execOp, Act.eval, f74, f78, go_sem]) hl hs hS
   apply sc
   ·intro a w' vs σ hS hl hs hk
    have f79 : a.tmps[79]?.getD undef = .bool false := sf hk 19
    exact rp (.bool false) (by simp [execOp, Act.eval, f79, go_sem]) hl hs hS
   apply sc
   ·intro a w' vs σ hS hl hs hk
    have f1 : a.tmps[1]?.getD undef = .pointer (some ⟨p, 0, none⟩) := sof hk
    exact rq (pt p 0) (wanted_yes rfl rfl rfl (sv hk 20)) (by simp [execOp, Act.eval, f1, go_sem]) hl hs hS
   apply sc
   ·intro a w' vs σ hS hl hs hk
    exact ro_call (f := 64) (wanted_yes rfl rfl rfl (sv hk 20)) rfl (by simp only [List.map_toArray, List.map_cons, List.map_nil, Act.eval] <;> rfl) (fun _ _ => by kernel_rfl) ((l16at_any 0 false hS).mono fun e w2 ⟨h1, h2⟩ => ⟨_, h1, sp_same (by kernel_rfl) hl hs h2 rfl, trivial⟩)
   apply sc
   ·intro a w' vs σ hS hl hs hk
    have e81 : a.tmps.getD 81 undef = .pointer (some ⟨p, 0, none⟩) := sv hk 21
    have e82 : a.tmps.getD 82 undef = .agg #[.int .i64 0, .int .i64 0, .bool false] := sv hk 22
    exact ro_call (f := 29) (wanted_yes rfl rfl rfl (sv hk 20)) rfl (by simp only [List.map_toArray, List.map_cons, List.map_nil, Act.eval, e81, e82] <;> rfl) (fun _ _ => by kernel_rfl) ((marks_front (row := 0) HT.out hS (k := 1) (sg (hs 1 (by decide))) (by decide) (by decide) (by rw [k16_len5]; decide) (by rw [k16_len5]; decide +kernel) (by decide +kernel)).mono fun e w2 ⟨h1, h2⟩ => ⟨_, h1, sp_same (by kernel_rfl) hl hs h2 rfl, trivial⟩)
   apply sc
   ·intro a w' vs σ hS hl hs hk
    have f83 : a.tmps[83]?.getD undef = .bool true := sf hk 23
    exact rq (.bool false) (wanted_yes rfl rfl rfl (sv hk 20)) (by simp [execOp, Act.eval, f83, go_sem]) hl hs hS
   apply sc
   ·intro a w' vs σ hS hl hs hk
    have f80 : a.tmps[80]?.getD undef = .bool false := sf hk 20
    have f84 : a.tmps[84]?.getD undef = .bool false := sf hk 24
    exact rp (.bool false) (by simp [execOp, Act.eval, f80, f84, go_sem]) hl hs hS
   apply sc
   ·intro a w' vs σ hS hl hs hk
    have f85 : a.tmps[85]?.getD undef = .bool false := sf hk 25
    exact rp (.bool false) (by simp [execOp, Act.eval, f85, go_sem]) hl hs hS
   apply sc
   ·intro a w' vs σ hS hl hs hk
    have f1 : a.tmps[1]?.getD undef = .pointer (some ⟨p, 0, none⟩) := sof hk
    exact rq (pt p 0) (wanted_yes rfl rfl rfl (sv hk 26)) (by simp [execOp, Act.eval, f1, go_sem]) hl hs hS
   apply sc
   ·intro a w' vs σ hS hl hs hk
    exact ro_call (f := 64) (wanted_yes rfl rfl rfl (sv hk 26)) rfl (by simp only [List.map_toArray, List.map_cons, List.map_nil, Act.eval] <;> rfl) (fun _ _ => by kernel_rfl) ((l16at_any 3 false hS).mono fun e w2 ⟨h1, h2⟩ => ⟨_, h1, sp_same (by kernel_rfl) hl hs h2 rfl, trivial⟩)
   apply sc
   ·intro a w' vs σ hS hl hs hk
    have e87 : a.tmps.getD 87 undef = .pointer (some ⟨p, 0, none⟩) := sv hk 27
    have e88 : a.tmps.getD 88 undef = .agg #[.int .i64 0, .int .i64 3, .bool false] := sv hk 28
    exact ro_call (f := 29) (wanted_yes rfl rfl rfl (sv hk 26)) rfl (by simp only [List.map_toArray, List.map_cons, List.map_nil, Act.eval, e87, e88] <;> rfl) (fun _ _ => by kernel_rfl) ((marks_bad (row := 0) (col := 3) HT.out hS (k := 1) (sg (hs 1 (by decide))) (by decide) (by decide) (by rw [k16_len5]; decide) (by rw [k16_len5]; decide +kernel) (by decide +kernel)).mono fun e w2 ⟨h1, h2⟩ => ⟨_, h1, sp_same (by kernel_rfl) hl hs h2 rfl, trivial⟩)
   apply sc
   ·intro a w' vs σ hS hl hs hk
    have f89 : a.tmps[89]?.getD undef = .bool true := sf hk 29
    exact rq (.bool false) (wanted_yes rfl rfl rfl (sv hk 26)) (by simp [execOp, Act.eval, f89, go_sem]) hl hs hS
   apply sc
   ·intro a w' vs σ hS hl hs hk
    have f86 : a.tmps[86]?.getD undef = .bool false := sf hk 26
    have f90 : a.tmps[90]?.getD undef = .bool false := sf hk 30
    exact rp (.bool false) (by simp [execOp, Act.eval, f86, f90, go_sem]) hl hs hS
   exact SSteps.nil
  ·intro vs w' hS hv
   have q0 : vs 0 = _ := hv 0 (by decide)
   have q1 : vs 1 = _ := hv 1 (by decide)
   have q2 : vs 2 = _ := hv 2 (by decide)
   have q3 : vs 3 = _ := hv 3 (by decide)
   have q4 : vs 4 = _ := hv 4 (by decide)
   have q5 : vs 5 = _ := hv 5 (by decide)
   have q6 : vs 6 = _ := hv 6 (by decide)
   have q7 : vs 7 = _ := hv 7 (by decide)
   have q8 : vs 8 = _ := hv 8 (by decide)
   have q9 : vs 9 = _ := hv 9 (by decide)
   have q10 : vs 10 = _ := hv 10 (by decide)
   have q11 : vs 11 = _ := hv 11 (by decide)
   have q12 : vs 12 = _ := hv 12 (by decide)
   have q13 : vs 13 = _ := hv 13 (by decide)
   have q14 : vs 14 = _ := hv 14 (by decide)
   have q15 : vs 15 = _ := hv 15 (by decide)
   have q16 : vs 16 = _ := hv 16 (by decide)
   have q17 : vs 17 = _ := hv 17 (by decide)
   have q18 : vs 18 = _ := hv 18 (by decide)
   have q19 : vs 19 = _ := hv 19 (by decide)
   have q20 : vs 20 = _ := hv 20 (by decide)
   have q21 : vs 21 = _ := hv 21 (by decide)
   have q22 : vs 22 = _ := hv 22 (by decide)
   have q23 : vs 23 = _ := hv 23 (by decide)
   have q24 : vs 24 = _ := hv 24 (by decide)
   have q25 : vs 25 = _ := hv 25 (by decide)
   have q26 : vs 26 = _ := hv 26 (by decide)
   have q27 : vs 27 = _ := hv 27 (by decide)
   have q28 : vs 28 = _ := hv 28 (by decide)
   have q29 : vs 29 = _ := hv 29 (by decide)
   have q30 : vs 30 = _ := hv 30 (by decide)
   have q31 : vs 31 = _ := hv 31 (by decide)
   have S2 := Lib.hid hS
   simp only [putL, Act.put, Nat.zero_add, Nat.reduceAdd, List.setIfInBounds_toArray, List.set_cons_succ, List.set_cons_zero, q0, q1, q2, q3, q4, q5, q6, q7, q8, q9, q10, q11, q12, q13, q14, q15, q16, q17, q18, q19, q20, q21, q22, q23, q24, q25, q26, q27, q28, q29, q30, q31]
   clear hS hv q0 q1 q2 q3 q4 q5 q6 q7 q8 q9 q10 q11 q12 q13 q14 q15 q16 q17 q18 q19 q20 q21 q22 q23 q24 q25 q26 q27 q28 q29 q30 q31
   have T3 := S2
   clear S2 T2
   go_wp2_with fail
   refine (show Calls Tryd.prog 48 #[.pointer (some ⟨p, 0, none⟩), .int .i64 0, .int .i64 3] _ _ from (Cell_yes (i := 0) (j := 3) (l := k16_5[0]'(by rw [k16_len5]; decide)) (x := k16_c) T3.out (k := 1) rfl (by decide) (by decide) (by simp) k16_at3)).mono ?_
   rintro e w3 ⟨rfl, hS⟩
   have T35 := Lib.hid hS
   clear hS T3
   go_upto_region 8 with (fail)
   refine at_objsC (T35.out.alloc1 (c1 := cv k16_c) (t1 := 71)) (fun W3 hW3 => ?_)
   generalize w3.heap.size = b4 at hW3 ⊢
   have T4 := Lib.hid (show Objs w W3 [.box b3 54 (pv pen0), .grid p 58 ((4 : Nat) : Int) k16_5, .box b4 71 (cv k16_c)] from (Objs.pick (σ := [_, _, _]) (os := []) hW3 [some 1, some 2, some 0] (by decide) rfl))
   clear hW3 T35
   refine wp_region_stage (w0 := w) (os := []) (by kernel_rfl) (by kernel_rfl) (by kernel_rfl) [(1, 12, [], fun vs => .grid p 58 ((4 : Nat) : Int) k16_6)] [[2], [], [], [], [], [], [], [], [], [], [0], [], [1], [], []] [.box b3 54 (pv pen0), .grid p 58 ((4 : Nat) : Int) k16_5, .box b4 71 (cv k16_c)] (fun opn u => match opn with | 0 => u = .agg (cv k16_c) | 1 => u = .agg (cv k16_c) | 2 => u = .bool false | 3 => u = .bool false | 4 => u = .int .i64 0 | 5 => u = .bool false | 6 => u = .bool false | 7 => u = .bool false | 8 => u = pt p 0 | 9 => u = .agg #[.int .i64 0, .int .i64 0, .bool false] | 10 => u = .agg (pv pen0) | 11 => u = .agg #[.int .i64 0, .int .i64 1, .bool false] | 12 => u = .bool true | 13 => u = .bool false | 14 => u = .bool false | _ => True) (fun vs => [.box b3 54 (pv pen0), .grid p 58 ((4 : Nat) : Int) k16_6, .box b4 71 (cv k16_c)]) (by kernel_rfl) (fun vs => by rfl) T4.out ?_ ?_
   ·apply sc
    ·intro a w' vs σ hS hl hs hk
     have f4 : a.tmps[4]?.getD undef = .pointer (some ⟨b4, 0, none⟩) := sof hk
     have hx := (hS.box (sg (hs 2 (by decide)))).cellAt
     exact rp (.agg (cv k16_c)) (by simp [execOp, Act.eval, f4, go_sem, hx]) hl hs hS
    apply sc
    ·intro a w' vs σ hS hl hs hk
     exact rp (.agg (cv k16_c)) (by simp [execOp, Act.eval, go_sem, cv_ne, k16_c]) hl hs hS
    apply sc
    ·intro a w' vs σ hS hl hs hk
     have f97 : a.tmps[97]?.getD undef = .agg (cv k16_c) := sf hk 0
     have f98 : a.tmps[98]?.getD undef = .agg (cv k16_c) := sf hk 1
     exact rp (.bool false) (by simp [execOp, Act.eval, f97, f98, go_sem]) hl hs hS
    apply sc
    ·intro a w' vs σ hS hl hs hk
     have f99 : a.tmps[99]?.getD undef = .bool false := sf hk 2
     exact rp (.bool false) (by simp [execOp, Act.eval, f99, go_sem]) hl hs hS
    apply sc
    ·intro a w' vs σ hS hl hs hk
     have f5 : a.tmps[5]?.getD undef = .int .i64 0 := sof hk
     exact rq (.int .i64 0) (wanted_yes rfl rfl rfl (sv hk 3)) (by simp [execOp, Act.eval, f5, go_sem]) hl hs hS
    apply sc
    ·intro a w' vs σ hS hl hs hk
     have f101 : a.tmps[101]?.getD undef = .int .i64 0 := sf hk 4
     exact rq (.bool false) (wanted_yes rfl rfl rfl (sv hk 3)) (by simp [execOp, Act.eval, f101, go_sem]) hl hs hS
    apply sc
    ·intro a w' vs σ hS hl hs hk
     have f100 : a.tmps[100]?.getD undef = .bool false := sf hk 3
     have f102 : a.tmps[102]?.getD undef = .bool false := sf hk 5
     exact rp (.bool false) (by simp [execOp, Act.eval, f100, f102, go_sem]) hl hs hS
    apply sc
    ·intro a w' vs σ hS hl hs hk
     have f103 : a.tmps[103]?.getD undef = .bool false := sf hk 6
     exact rp (.bool false) (by simp [execOp, Act.eval, f103, go_sem]) hl hs hS
    apply sc
    ·intro a w' vs σ hS hl hs hk
     have f1 : a.tmps[1]?.getD undef = .pointer (some ⟨p, 0, none⟩) := sof hk
     exact rq (pt p 0) (wanted_yes rfl rfl rfl (sv hk 7)) (by simp [execOp, Act.eval, f1, go_sem]) hl hs hS
    apply sc
    ·intro a w' vs σ hS hl hs hk
     exact ro_call (f := 64) (wanted_yes rfl rfl rfl (sv hk 7)) rfl (by simp only [List.map_toArray, List.map_cons, List.map_nil, Act.eval] <;> rfl) (fun _ _ => by kernel_rfl) ((l16at_any 0 false hS).mono fun e w2 ⟨h1, h2⟩ => ⟨_, h1, sp_same (by kernel_rfl) hl hs h2 rfl, trivial⟩)
    apply sc
    ·intro a w' vs σ hS hl hs hk
     have f3 : a.tmps[3]?.getD undef = .pointer (some ⟨b3, 0, none⟩) := sof hk
     have hx := (hS.box (sg (hs 0 (by decide)))).penAt
     exact rq (.agg (pv pen0)) (wanted_yes rfl rfl rfl (sv hk 7)) (by simp [execOp, Act.eval, f3, go_sem, hx]) hl hs hS
    apply sc
    ·intro a w' vs σ hS hl hs hk
     exact ro_call (f := 64) (wanted_yes rfl rfl rfl (sv hk 7)) rfl (by simp only [List.map_toArray, List.map_cons, List.map_nil, Act.eval] <;> rfl) (fun _ _ => by kernel_rfl) ((l16at_any 1 false hS).mono fun e w2 ⟨h1, h2⟩ => ⟨_, h1, sp_same (by kernel_rfl) hl hs h2 rfl, trivial⟩)
    apply sc
    ·intro a w' vs σ hS hl hs hk
     have e105 : a.tmps.getD 105 undef = .pointer (some ⟨p, 0, none⟩) := sv hk 8
     have e106 : a.tmps.getD 106 undef = .agg #[.int .i64 0, .int .i64 0, .bool false] := sv hk 9
     have e107 : a.tmps.getD 107 undef = .agg (pv pen0) := sv hk 10
     have e108 : a.tmps.getD 108 undef = .agg #[.int .i64 0, .int .i64 1, .bool false] := sv hk 11
     exact ro_call (f := 27) (wanted_yes rfl rfl rfl (sv hk 7)) rfl (by simp only [List.map_toArray, List.map_cons, List.map_nil, Act.eval, e105, e106, e107, e108] <;> rfl) (fun _ _ => by kernel_rfl) ((k16_print (j := 0) HT.out hS (k := 1) (sg (hs 1 (by decide))) k16_len5 k16_rect5 (by decide +kernel) (by decide +kernel) (by decide +kernel) (by decide +kernel) (by decide +kernel) rfl rfl rfl).mono fun e w2 ⟨h1, h2⟩ => ⟨_, h1, sp_set 1 (.grid p 58 ((4 : Nat) : Int) k16_6) (by kernel_rfl) (by simp) (by decide) hl hs (by rfl) h2 rfl, trivial⟩)
    apply sc
    ·intro a w' vs σ hS hl hs hk
     have f109 : a.tmps[109]?.getD undef = .bool true := sf hk 12
     exact rq (.bool false) (wanted_yes rfl rfl rfl (sv hk 7)) (by simp [execOp, Act.eval, f109, go_sem]) hl hs hS
    apply sc
    ·intro a w' vs σ hS hl hs hk
     have f104 : a.tmps[104]?.getD undef = .bool false := sf hk 7
     have f110 : a.tmps[110]?.getD undef = .bool false := sf hk 13
     exact rp (.bool false) (by simp [execOp, Act.eval, f104, f110, go_sem]) hl hs hS
    exact SSteps.nil
   ·intro vs w' hS hv
    have q0 : vs 0 = _ := hv 0 (by decide)
    have q1 : vs 1 = _ := hv 1 (by decide)
    have q2 : vs 2 = _ := hv 2 (by decide)
    have q3 : vs 3 = _ := hv 3 (by decide)
    have q4 : vs 4 = _ := hv 4 (by decide)
    have q5 : vs 5 = _ := hv 5 (by decide)
    have q6 : vs 6 = _ := hv 6 (by decide)
    have q7 : vs 7 = _ := hv 7 (by decide)
    have q8 : vs 8 = _ := hv 8 (by decide)
    have q9 : vs 9 = _ := hv 9 (by decide)
    have q10 : vs 10 = _ := hv 10 (by decide)
    have q11 : vs 11 = _ := hv 11 (by decide)
    have q12 : vs 12 = _ := hv 12 (by decide)
    have q13 : vs 13 = _ := hv 13 (by decide)
    have q14 : vs 14 = _ := hv 14 (by decide)
    have S2 := Lib.hid hS
    simp only [putL, Act.put, Nat.zero_add, Nat.reduceAdd, List.setIfInBounds_toArray, List.set_cons_succ, List.set_cons_zero, q0, q1, q2, q3, q4, q5, q6, q7, q8, q9, q10, q11, q12, q13, q14]
    clear hS hv q0 q1 q2 q3 q4 q5 q6 q7 q8 q9 q10 q11 q12 q13 q14
    have T5 := S2
    clear S2 T4
    go_wp2_with fail
    refine (show Calls Tryd.prog 49 #[.pointer (some ⟨p, 0, none⟩), .int .i64 0] _ _ from (Line_yes (i := 0) T5.out (k := 1) rfl (by decide) k16_row (by decide))).mono ?_
    rintro e w4 ⟨v, rfl, hS⟩
    obtain ⟨A, c6, rfl, -⟩ := hS.cellsRd (k := 0) rfl
    obtain ⟨gl, rfl, -, -, -, -⟩ := (hS.own (k := 0) rfl).head (by decide)
    have hq0 := cells_facts hS (k := 0) rfl (i := 0) (c := k16c 122) rfl
    have hq1 := cells_facts hS (k := 0) rfl (i := 1) (c := k16c 97) rfl
    have hq2 := (cells_facts hS (k := 0) rfl (i := 2) (c := ⟨20013, 769, 0, 0, 2, pen0⟩) rfl).2.2.1
    have hq3 := (cells_facts hS (k := 0) rfl (i := 3) (c := cell0) rfl).2.2.1
    have hr0 := rune_of hq0.2.2.1
    have hr1 := rune_of hq1.2.2.1
    have hz := hq0.2.2.2.2
    clear hq0 hq1
    simp only [Nat.zero_mul, Nat.one_mul, Nat.reduceMul] at hr0 hr1 hq2 hq3
    have T6 := Lib.hid hS
    clear hS T5
    go_wp2_with fail
    go_ret
    exact ⟨rfl, T6.out.alloc1.base⟩
end Go.Proofs.YtppijfjigcoifaaDoor

namespace Go.Proofs.YtppijfjigcoifaaDoor
open Go.RowKit

section
variable {w0 w : World} {os : List Ob} {L : List Ln} {v b : Value}
end
end Go.Proofs.YtppijfjigcoifaaDoor

namespace Go.Proofs.YtppijfjigcoifaaDoor
open Go.RowKit

section
variable {w0 w : World} {os : List Ob} {p cols : Nat} {L : List Ln}
end
end Go.Proofs.YtppijfjigcoifaaDoor

namespace Go.Proofs.YtppijfjigcoifaaDoor
open Go.RowKit

section
variable {w0 w : World} {os : List Ob} {p x cols : Nat} {L : List Ln}
end
end Go.Proofs.YtppijfjigcoifaaDoor

namespace Go.Proofs.YtppijfjigcoifaaDoor
open Go.RowKit

section
variable {w0 w : World} {os : List Ob} {p x cols : Nat} {L : List Ln}
end
end Go.Proofs.YtppijfjigcoifaaDoor

namespace Go.Proofs.YtppijfjigcoifaaDoor
open Go.RowKit

section
variable {w0 w : World} {os : List Ob} {p x cols : Nat} {L : List Ln}
end
end Go.Proofs.YtppijfjigcoifaaDoor

namespace Go.Proofs.YtppijfjigcoifaaDoor
open Go.RowKit

section
variable {w0 w : World} {os : List Ob} {p x cols : Nat} {L : List Ln}
end
end Go.Proofs.YtppijfjigcoifaaDoor

namespace Go.Proofs.YtppijfjigcoifaaDoor
open Go.RowKit

section
variable {w0 w : World} {os : List Ob} {p x cols : Nat} {L : List Ln}
end
end Go.Proofs.YtppijfjigcoifaaDoor

namespace Go.Proofs.YtppijfjigcoifaaDoor
open Go.RowKit

section
variable {w0 w : World} {os : List Ob} {p x cols : Nat} {L : List Ln}
end
end Go.Proofs.YtppijfjigcoifaaDoor

namespace Go.Proofs.YtppijfjigcoifaaDoor
open Go.RowKit

theorem rectP14 (rows cols : Nat) (p : Pen) : Rect cols (List.replicate rows (List.replicate cols (blank p), false)) := fun l hl => by rw [(List.mem_replicate.1 hl).2]; simp
def Kept14 (s rr : Nat) (L : List Ln) : Prop := Rect s L ∧ L.length = rr ∧ AllV L
theorem kept14_new (s rr : Nat) : Kept14 s rr (List.replicate rr (List.replicate s (blank pen0), false)) := ⟨rectP14 rr s pen0, by simp, allV_new rr s (by decide +kernel)⟩
end Go.Proofs.YtppijfjigcoifaaDoor

set_option linter.constructorNameAsVariable false
set_option maxRecDepth 100000
namespace Go.Proofs.YtppijfjigcoifaaDoor
open Go.ChangeShapes Go.WideShapes Go.ChangeAt Go.RowKit Go.Deep Go.WideElems

section
variable {H : Type} {enc : TypeId × Value → H}

theorem trodAll_below {P : Program} (hl : laidOutB P = true) {W W' : World} (hb : Below W.heap.size W W') {sp : Nat → Bool} : ∀ (ts : List TypeId) (vs : List Value) (ds : List (DataW H)) (ps : List MemPlace), (∀ t ∈ ts, P.readableRec t = true ∧ t < P.types.size) →
  DataW.TrodAll enc P W 0 (fun _ => true) true ts vs ds ps → (∀ x ∈ ps, x.block < W.heap.size) → (∀ x ∈ ps, sp x.block = true) → DataW.TrodAll enc P W' 0 sp true ts vs ds ps
 | [], [], [], ps, _, h, _, _ => h
 | t :: ts, v :: vs, d :: ds, ps, ht, h, hlt, hs => by
  obtain ⟨p, q, h1, h2, rfl⟩ := h
  exact ⟨p, q, Trod_stays hl (ht t (by simp)).1 (ht t (by simp)).2 h1 (fun x hx => hb.same (hlt x (by simp [hx]))) (fun x hx => hs x (by simp [hx])),
   trodAll_below hl hb ts vs ds q (fun u hu => ht u (by simp [hu])) h2 (fun x hx => hlt x (by simp [hx])) (fun x hx => hs x (by simp [hx])), rfl⟩
 | [], _ :: _, _, _, _, h, _, _ => by cases h
 | [], [], _ :: _, _, _, h, _, _ => by cases h
 | _ :: _, [], _, _, _, h, _, _ => by cases h
 | _ :: _, _ :: _, [], _, _, h, _, _ => by cases h

theorem law_post {P : Program} {f : Func} {s : ChangeSpec} {W W' : World} {args : Array Value} {ds gs : List (DataW H)} {before : List MemPlace} {tb : TypeId} (hv : s.vars = []) (hl : laidOutB P = true)
  (hW : DataW.Whole enc P f.params.toList s.vars false W args.toList ds gs before) (hpar : ∀ t ∈ f.params.toList, P.readableRec t = true ∧ t < P.types.size)
  (hfn : gs = [] → (s.fn H (ds ++ gs)).results = [.lit (.bool true)] ∧ (s.fn H (ds ++ gs)).args = ds ∧ (s.fn H (ds ++ gs)).vars = []) (hr : f.resultTypes = #[tb]) (htb : P.underlying tb = some .bool) (hb : Below W.heap.size W W') :
  s.post enc P f false true false false W args (.bool true) W' := by
 have hlt : ∀ p ∈ before, p.block < W.heap.size := fun p hp => hW.lt p hp
 have hW' := hW
 obtain ⟨p, q, hA, hV, rfl, hfz, hnd⟩ := hW
 rw [hv] at hV
 obtain ⟨rfl, rfl⟩ := trodVars_none hV
 obtain ⟨f1, f2, f3⟩ := hfn rfl
 have hargs : ∀ sp : Nat → Bool, (∀ x ∈ p, sp x.block = true) → DataW.TrodAll enc P W' 0 sp true f.params.toList args.toList (s.fn H (ds ++ [])).args p := fun sp hs => by
  rw [f2]; exact trodAll_below hl hb _ _ _ _ hpar hA (fun x hx => hlt x (by simp [hx])) hs
 have hres : ∀ (b : Nat) (sp : Nat → Bool) (hd : Bool), DataW.TrodAll enc P W' b sp hd f.resultTypes.toList ((Value.bool true).resultList f.resultTypes.size) (s.fn H (ds ++ [])).results [] := fun b sp hd => by
  rw [f1, hr]; exact trodAll_cons_mk (shut_bool htb _) trodAll_mk0
 have hvars : ∀ sp : Nat → Bool, DataW.TrodVars enc P W' sp s.vars (s.fn H (ds ++ [])).vars [] := fun sp => by rw [hv, f3]; rfl
 have hold : ∀ x ∈ p, (fun b => decide (b < W.heap.size)) x.block = true := fun x hx => by simpa using hlt x (by simp [hx])
 refine ⟨ds, [], p ++ [], [], p, [], hW', hres _ _ _, hargs _ hold, hvars _, World.keptBut_mono (fun x hx => ⟨hx, ?_⟩) (hb.frame (· ∈ p ++ [])), fun h => by cases h⟩
 exact Or.inr (by simpa using hx)

section
variable {w : World} {base : Nat} {sp : Nat → Bool} {hd : Bool} {fuel : Nat} {cs : List Value} {x : DataW H × List MemPlace}
theorem cells_color : Tryd.prog.cellsOf 51 = 5 := by kernel_rfl
theorem cells_pen : Tryd.prog.cellsOf 54 = 11 := by kernel_rfl
theorem cells_i32 : Tryd.prog.cellsOf 21 = 1 := by kernel_rfl
theorem cells_int : Tryd.prog.cellsOf 3 = 1 := by kernel_rfl
theorem cells_u8 : Tryd.prog.cellsOf 5 = 1 := by kernel_rfl
theorem cells_kind : Tryd.prog.cellsOf 49 = 1 := by kernel_rfl
theorem cells_flags : Tryd.prog.cellsOf 52 = 1 := by kernel_rfl
theorem num_field {P : Program} {t : TypeId} {k : IntKind} {c : Value} {y : Option (DataW H × List MemPlace)} (ht : P.underlying t = some (.int k)) (hy : y.isSome = true) (h : DataW.trod enc P w base sp hd fuel t [c] = y) : ∃ n, c = .int k n := by
 obtain ⟨z, hz⟩ := Option.isSome_iff_exists.1 hy
 obtain ⟨n, hn, _⟩ := DataW.trod_int ht (h.trans hz)
 exact ⟨n, by simpa using hn⟩
theorem trod_color (h : DataW.trod enc Tryd.prog w base sp hd fuel 51 cs = some x) : ∃ k i r g b, cs = [.int .i64 k, .int .u8 i, .int .u8 r, .int .u8 g, .int .u8 b] := by
 obtain ⟨xs, n, _, _, hlen, hxl, hf⟩ := DataW.trod_struct Tryd.underlying51 h
 rw [cells_color] at hlen
 match cs, hlen, hf with
 | [c0, c1, c2, c3, c4], _, hf =>
  have h0 : DataW.trod enc Tryd.prog w base sp hd n 49 (([c0, c1, c2, c3, c4].drop 0).take (Tryd.prog.cellsOf 49)) = xs[0]? := hf 0 _ rfl
  have h1 : DataW.trod enc Tryd.prog w base sp hd n 5 (([c0, c1, c2, c3, c4].drop 1).take (Tryd.prog.cellsOf 5)) = xs[1]? := hf 1 _ rfl
  have h2 : DataW.trod enc Tryd.prog w base sp hd n 5 (([c0, c1, c2, c3, c4].drop 2).take (Tryd.prog.cellsOf 5)) = xs[2]? := hf 2 _ rfl
  have h3 : DataW.trod enc Tryd.prog w base sp hd n 5 (([c0, c1, c2, c3, c4].drop 3).take (Tryd.prog.cellsOf 5)) = xs[3]? := hf 3 _ rfl
  have h4 : DataW.trod enc Tryd.prog w base sp hd n 5 (([c0, c1, c2, c3, c4].drop 4).take (Tryd.prog.cellsOf 5)) = xs[4]? := hf 4 _ rfl
  simp only [cells_kind, cells_u8, List.drop_zero, List.drop_succ_cons, List.take_succ_cons, List.take_zero] at h0 h1 h2 h3 h4
  obtain ⟨k, rfl⟩ := num_field Tryd.underlying49 (by simp [hxl]) h0
  obtain ⟨i, rfl⟩ := num_field Tryd.underlying5 (by simp [hxl]) h1
  obtain ⟨r, rfl⟩ := num_field Tryd.underlying5 (by simp [hxl]) h2
  obtain ⟨g, rfl⟩ := num_field Tryd.underlying5 (by simp [hxl]) h3
  obtain ⟨b, rfl⟩ := num_field Tryd.underlying5 (by simp [hxl]) h4
  exact ⟨k, i, r, g, b, rfl⟩
theorem some_of {α : Type} {y : Option α} (h : y.isSome = true) : ∃ z, y = some z := Option.isSome_iff_exists.1 h
theorem trod_pen (h : DataW.trod enc Tryd.prog w base sp hd fuel 54 cs = some x) : ∃ q : Pen, cs = (pv q).toList := by
 obtain ⟨xs, n, _, _, hlen, hxl, hf⟩ := DataW.trod_struct Tryd.underlying54 h
 rw [cells_pen] at hlen
 have h0 : DataW.trod enc Tryd.prog w base sp hd n 51 ((cs.drop 0).take (Tryd.prog.cellsOf 51)) = xs[0]? := hf 0 _ rfl
 have h1 : DataW.trod enc Tryd.prog w base sp hd n 51 ((cs.drop 5).take (Tryd.prog.cellsOf 51)) = xs[1]? := hf 1 _ rfl
 have h2 : DataW.trod enc Tryd.prog w base sp hd n 52 ((cs.drop 10).take (Tryd.prog.cellsOf 52)) = xs[2]? := hf 2 _ rfl
 obtain ⟨z0, e0⟩ := some_of (show (xs[0]?).isSome = true by simp [hxl])
 obtain ⟨z1, e1⟩ := some_of (show (xs[1]?).isSome = true by simp [hxl])
 simp only [cells_color, cells_flags] at h0 h1 h2
 obtain ⟨k, i, r, g, b, hc0⟩ := trod_color (h0.trans e0)
 obtain ⟨k', i', r', g', b', hc1⟩ := trod_color (h1.trans e1)
 match cs, hlen with
 | [c0, c1, c2, c3, c4, c5, c6, c7, c8, c9, c10], _ =>
  simp only [List.drop_zero, List.drop_succ_cons, List.take_succ_cons, List.take_zero] at h2 hc0 hc1
  obtain ⟨fl, rfl⟩ := num_field Tryd.underlying52 (by simp [hxl]) h2
  simp only [List.cons.injEq, and_true] at hc0 hc1
  obtain ⟨rfl, rfl, rfl, rfl, rfl⟩ := hc0
  obtain ⟨rfl, rfl, rfl, rfl, rfl⟩ := hc1
  exact ⟨⟨k, i, r, g, b, k', i', r', g', b', fl⟩, rfl⟩
end
end
end Go.Proofs.YtppijfjigcoifaaDoor

set_option linter.constructorNameAsVariable false
set_option maxRecDepth 100000
namespace Go.Proofs.YtppijfjigcoifaaDoor
open Go.ChangeShapes Go.WideShapes Go.ChangeAt Go.RowKit Go.Deep Go.WideElems

section
variable {H : Type} {enc : TypeId × Value → H}
theorem cells_bool : Tryd.prog.cellsOf 4 = 1 := by kernel_rfl
end
end Go.Proofs.YtppijfjigcoifaaDoor

set_option linter.constructorNameAsVariable false
set_option maxRecDepth 100000
namespace Go.Proofs.YtppijfjigcoifaaDoor
open Go.ChangeShapes Go.WideShapes Go.ChangeAt Go.RowKit Go.Deep Go.WideElems

section
variable {H : Type} {enc : TypeId × Value → H}
theorem cells_cursor : Tryd.prog.cellsOf 48 = 3 := by kernel_rfl
theorem trod_cursor {w : World} {base : Nat} {sp : Nat → Bool} {fuel : Nat} {cs : List Value} {x : DataW H × List MemPlace} {hd : Bool} (h : DataW.trod enc Tryd.prog w base sp hd fuel 48 cs = some x) : ∃ r c b, cs = [.int .i64 r, .int .i64 c, .bool b] := by
 obtain ⟨xs, n, _, _, hlen, hxl, hf⟩ := DataW.trod_struct Tryd.underlying48 h
 rw [cells_cursor] at hlen
 match cs, hlen, hf with
 | [c0, c1, c2], _, hf =>
  have h0 : DataW.trod enc Tryd.prog w base sp hd n 3 (([c0, c1, c2].drop 0).take (Tryd.prog.cellsOf 3)) = xs[0]? := hf 0 _ rfl
  have h1 : DataW.trod enc Tryd.prog w base sp hd n 3 (([c0, c1, c2].drop 1).take (Tryd.prog.cellsOf 3)) = xs[1]? := hf 1 _ rfl
  have h2 : DataW.trod enc Tryd.prog w base sp hd n 4 (([c0, c1, c2].drop 2).take (Tryd.prog.cellsOf 4)) = xs[2]? := hf 2 _ rfl
  obtain ⟨z2, e2⟩ := some_of (show (xs[2]?).isSome = true by simp [hxl])
  simp only [cells_int, cells_bool, List.drop_zero, List.drop_succ_cons, List.take_succ_cons, List.take_zero] at h0 h1 h2
  obtain ⟨r, rfl⟩ := num_field Tryd.underlying3 (by simp [hxl]) h0
  obtain ⟨c, rfl⟩ := num_field Tryd.underlying3 (by simp [hxl]) h1
  obtain ⟨b, hb, _⟩ := DataW.trod_bool Tryd.underlying4 (h2.trans e2)
  simp only [List.cons.injEq, and_true] at hb
  subst hb
  exact ⟨r, c, b, rfl⟩
theorem open_cursor {v : Value} {w : World} {r : Reach} {b0 base : Nat} {sp : Nat → Bool} {hd : Bool} {d : DataW H} {p : List MemPlace} (hv : Value.okWide Tryd.prog w r b0 48 v) (h : DataW.Trod enc Tryd.prog w base sp hd 48 v d p) : ∃ r c b, v = .agg #[.int .i64 r, .int .i64 c, .bool b] := by
 obtain ⟨cs, rfl, _⟩ := okWide_struct Tryd.underlying48 hv
 obtain ⟨fuel, hf⟩ := h
 obtain ⟨r, c, b, he⟩ := trod_cursor hf
 exact ⟨r, c, b, by rw [show cs = #[.int .i64 r, .int .i64 c, .bool b] from by simpa [Value.cells] using congrArg List.toArray he]⟩
theorem trod_recs {V : Type} [Inhabited V] {Pr : V → Prop} {w : World} {fuel : Nat} {cs : List Value} {x : DataW H × List MemPlace} {hd : Bool} {tS tE : TypeId} {k : Nat} (av : V → Array Value) (hu : Tryd.prog.underlying tS = some (.slice tE)) (hk : Tryd.prog.cellsOf tE = k) (hk0 : 0 < k) (hav : ∀ a, (av a).size = k)
  (helem : ∀ (fuel : Nat) (cs' : List Value) (x' : DataW H × List MemPlace), DataW.trod enc Tryd.prog w 0 (fun _ => true) hd fuel tE cs' = some x' → ∃ a, cs' = (av a).toList ∧ Pr a)
  (h : DataW.trod enc Tryd.prog w 0 (fun _ => true) hd fuel tS cs = some x) : ∃ (A : Option Addr) (c : Nat) (l : List V), cs = [.slice A l.length c] ∧ RdRec w A c k (l.map av) ∧ c ≤ maxLen ∧ ∀ a ∈ l, Pr a := by
 rcases open_slice hu h with ⟨rfl, _⟩ | ⟨a, len, cap, m, n, D, Pl, rfl, _, hl, hm, hmm, _, hi⟩
 ·exact ⟨none, 0, [], rfl, ⟨by simp, fun _ => rfl, fun h => by simp at h⟩, by simp [maxLen], fun a ha => by simp at ha⟩
 ·simp only [if_true] at hmm
  subst hmm
  rw [hk] at hi
  have hall : ∀ i, i < len → ∃ c : V, Pr c ∧ ∀ j, j < k → w.cell? ((a.add (i * k)).add j) = (av c)[j]? := by
   intro i hlt
   obtain ⟨cs', hc, ht⟩ := hi i (by omega)
   obtain ⟨_, hcl, hat⟩ := World.cells?_some hc
   obtain ⟨c, rfl, hp⟩ := helem _ _ _ ht
   exact ⟨c, hp, fun j hj => by rw [hat j hj]; simp⟩
  have hl2 : ∃ l : List V, l.length = len ∧ (∀ i (h : i < l.length), ∀ j, j < k → w.cell? ((a.add (i * k)).add j) = (av l[i])[j]?) ∧ ∀ c ∈ l, Pr c := by
   refine ⟨(List.range len).map fun i => if h : i < len then (hall i h).choose else default, by simp, fun i h j hj => ?_, fun c hc => ?_⟩
   ·have hlt : i < len := by simpa using h
    simp only [List.getElem_map, List.getElem_range, hlt, dif_pos]
    exact (hall i hlt).choose_spec.2 j hj
   ·obtain ⟨i, hi2, rfl⟩ := List.mem_map.1 hc
    have hlt : i < len := by simpa using hi2
    rw [dif_pos hlt]
    exact (hall i hlt).choose_spec.1
  obtain ⟨l, rfl, hcell, hpr⟩ := hl2
  refine ⟨some a, m, l, rfl, ⟨by simpa using hl, (fun h => by cases h), fun hn => ?_⟩, hm, hpr⟩
  have hn' : 0 < l.length := by simpa using hn
  have h00 := hcell 0 hn' 0 hk0
  have hsz : 0 < (av l[0]).size := by rw [hav]; exact hk0
  rw [Nat.zero_mul, Addr.add_zero', Addr.add_zero', Array.getElem?_eq_getElem hsz] at h00
  obtain ⟨b, off, spot⟩ := a
  have hspot : spot = none := by
   cases spot with
   | none => rfl
   | some q => simp [World.cell?] at h00; split at h00 <;> simp at h00
  subst hspot
  refine ⟨b, off, rfl, block_lt_of_cell h00, fun i r hr => ?_⟩
  rw [List.getElem?_map] at hr
  cases hli : l[i]? with
  | none => rw [hli] at hr; cases hr
  | some y =>
   rw [hli] at hr
   simp only [Option.map_some, Option.some.injEq] at hr
   subst hr
   obtain ⟨hil, hy⟩ := List.getElem?_eq_some_iff.1 hli
   refine recAt_of (hav y) (fun j v hv => ?_)
   have hj : j < k := by have := (List.getElem?_eq_some_iff.1 hv).1; simp [hav] at this; exact this
   have := hcell i hil j hj
   rw [add_at, add_at] at this
   rw [this, hy]
   simpa using hv
theorem open_recs {V : Type} [Inhabited V] {Pr : V → Prop} {v : Value} {w : World} {r : Reach} {b0 : Nat} {hd : Bool} {d : DataW H} {p : List MemPlace} {tS tE : TypeId} {k : Nat} (av : V → Array Value) (hu : Tryd.prog.underlying tS = some (.slice tE)) (hk : Tryd.prog.cellsOf tE = k) (hk0 : 0 < k) (hav : ∀ a, (av a).size = k)
  (helem : ∀ (fuel : Nat) (cs' : List Value) (x' : DataW H × List MemPlace), DataW.trod enc Tryd.prog w 0 (fun _ => true) hd fuel tE cs' = some x' → ∃ a, cs' = (av a).toList ∧ Pr a)
  (hv : Value.okWide Tryd.prog w r b0 tS v) (h : DataW.Trod enc Tryd.prog w 0 (fun _ => true) hd tS v d p) : ∃ (A : Option Addr) (c : Nat) (l : List V), v = .slice A l.length c ∧ RdRec w A c k (l.map av) ∧ c ≤ maxLen ∧ ∀ a ∈ l, Pr a := by
 obtain ⟨a0, n, c, rfl⟩ := okWide_slice hu hv
 obtain ⟨fuel, hf⟩ := h
 obtain ⟨A, c', l, he, hr⟩ := trod_recs av hu hk hk0 hav helem hf
 exact ⟨A, c', l, by simpa [Value.cells] using he, hr⟩
end
end Go.Proofs.YtppijfjigcoifaaDoor

set_option linter.constructorNameAsVariable false
set_option maxRecDepth 100000
namespace Go.Proofs.YtppijfjigcoifaaDoor
open Go.ChangeShapes Go.WideShapes Go.ChangeAt Go.RowKit Go.Deep Go.WideElems

section
variable {H : Type} {enc : TypeId × Value → H}
end
end Go.Proofs.YtppijfjigcoifaaDoor

set_option linter.constructorNameAsVariable false
set_option maxRecDepth 100000
namespace Go.Proofs.YtppijfjigcoifaaDoor
open Go.ChangeShapes Go.WideShapes Go.ChangeAt Go.RowKit Go.Deep Go.WideElems

instance : Inhabited Act14 := ⟨⟨0, 0, 0, 0, 0, cell0, none, 0, [], false, pen0⟩⟩
section
variable {H : Type} {enc : TypeId × Value → H}
end
structure ALine where
 A : Option Addr
 c : Nat
 cs : List Cell
 s : Bool
instance : Inhabited ALine := ⟨⟨none, 0, [], false⟩⟩
section
variable {H : Type} {enc : TypeId × Value → H}
end
end Go.Proofs.YtppijfjigcoifaaDoor

set_option maxRecDepth 100000
namespace Go.Proofs.YtppijfjigcoifaaDoor
open Go.ChangeShapes Go.WideShapes Go.ChangeAt Go.RowKit Go.Deep Go.WideElems

section
variable {H : Type} {enc : TypeId × Value → H}
end
end Go.Proofs.YtppijfjigcoifaaDoor

set_option linter.constructorNameAsVariable false
set_option maxRecDepth 100000
namespace Go.Proofs.YtppijfjigcoifaaDoor
open Go.ChangeShapes Go.WideShapes Go.ChangeAt Go.RowKit Go.Deep Go.WideElems

instance : Inhabited Act16 := ⟨⟨0, 0, 0, pen0, false, false⟩⟩
section
variable {H : Type} {enc : TypeId × Value → H}
theorem cells_act16 : Tryd.prog.cellsOf 56 = 16 := by kernel_rfl
theorem trod_act16 {w : World} {base : Nat} {sp : Nat → Bool} {fuel : Nat} {cs : List Value} {x : DataW H × List MemPlace} {hd : Bool} (h : DataW.trod enc Tryd.prog w base sp hd fuel 56 cs = some x) : ∃ a : Act16, cs = (av16 a).toList := by
 obtain ⟨xs, n, _, _, hlen, hxl, hf⟩ := DataW.trod_struct Tryd.underlying56 h
 rw [cells_act16] at hlen
 have h0 : DataW.trod enc Tryd.prog w base sp hd n 3 ((cs.drop 0).take (Tryd.prog.cellsOf 3)) = xs[0]? := hf 0 _ rfl
 have h1 : DataW.trod enc Tryd.prog w base sp hd n 3 ((cs.drop 1).take (Tryd.prog.cellsOf 3)) = xs[1]? := hf 1 _ rfl
 have h2 : DataW.trod enc Tryd.prog w base sp hd n 21 ((cs.drop 2).take (Tryd.prog.cellsOf 21)) = xs[2]? := hf 2 _ rfl
 have h3 : DataW.trod enc Tryd.prog w base sp hd n 54 ((cs.drop 3).take (Tryd.prog.cellsOf 54)) = xs[3]? := hf 3 _ rfl
 have h4 : DataW.trod enc Tryd.prog w base sp hd n 4 ((cs.drop 14).take (Tryd.prog.cellsOf 4)) = xs[4]? := hf 4 _ rfl
 have h5 : DataW.trod enc Tryd.prog w base sp hd n 4 ((cs.drop 15).take (Tryd.prog.cellsOf 4)) = xs[5]? := hf 5 _ rfl
 obtain ⟨z3, e3⟩ := some_of (show (xs[3]?).isSome = true by simp [hxl])
 obtain ⟨z4, e4⟩ := some_of (show (xs[4]?).isSome = true by simp [hxl])
 obtain ⟨z5, e5⟩ := some_of (show (xs[5]?).isSome = true by simp [hxl])
 simp only [cells_int, cells_i32, cells_bool, cells_pen] at h0 h1 h2 h3 h4 h5
 obtain ⟨q, hq⟩ := trod_pen (h3.trans e3)
 match cs, hlen with
 | [c0, c1, c2, c3, c4, c5, c6, c7, c8, c9, c10, c11, c12, c13, c14, c15], _ =>
  simp only [List.drop_zero, List.drop_succ_cons, List.take_succ_cons, List.take_zero] at h0 h1 h2 h4 h5 hq
  obtain ⟨wh, rfl⟩ := num_field Tryd.underlying3 (by simp [hxl]) h0
  obtain ⟨nn, rfl⟩ := num_field Tryd.underlying3 (by simp [hxl]) h1
  obtain ⟨rr, rfl⟩ := num_field Tryd.underlying21 (by simp [hxl]) h2
  obtain ⟨b4, hb4, _⟩ := DataW.trod_bool Tryd.underlying4 (h4.trans e4)
  obtain ⟨b5, hb5, _⟩ := DataW.trod_bool Tryd.underlying4 (h5.trans e5)
  simp only [List.cons.injEq, and_true] at hb4 hb5
  subst hb4
  subst hb5
  simp only [pv, List.cons.injEq, and_true] at hq
  obtain ⟨rfl, rfl, rfl, rfl, rfl, rfl, rfl, rfl, rfl, rfl, rfl⟩ := hq
  exact ⟨⟨wh, nn, rr, q, b4, b5⟩, rfl⟩
theorem open_act16 {v : Value} {w : World} {r : Reach} {b0 base : Nat} {sp : Nat → Bool} {hd : Bool} {d : DataW H} {p : List MemPlace} (hv : Value.okWide Tryd.prog w r b0 56 v) (h : DataW.Trod enc Tryd.prog w base sp hd 56 v d p) : ∃ a : Act16, v = .agg (av16 a) := by
 obtain ⟨cs, rfl, _⟩ := okWide_struct Tryd.underlying56 hv
 obtain ⟨fuel, hf⟩ := h
 obtain ⟨a, ha⟩ := trod_act16 hf
 exact ⟨a, by rw [show cs = av16 a from by simpa [Value.cells] using ha]⟩
theorem open_acts16 {v : Value} {w : World} {r : Reach} {b0 : Nat} {hd : Bool} {d : DataW H} {p : List MemPlace} (hv : Value.okWide Tryd.prog w r b0 64 v) (h : DataW.Trod enc Tryd.prog w 0 (fun _ => true) hd 64 v d p) : ∃ (A : Option Addr) (c : Nat) (l : List Act16), v = .slice A l.length c ∧ RdRec w A c 16 (l.map av16) ∧ c ≤ maxLen := by
 obtain ⟨A, c, l, h1, h2, h3, -⟩ := open_recs (Pr := fun _ => True) av16 Tryd.underlying64 cells_act16 (by decide) av16_size (fun fuel cs' x' h => by obtain ⟨a, ha⟩ := trod_act16 h; exact ⟨a, ha, trivial⟩) hv h
 exact ⟨A, c, l, h1, h2, h3⟩
end
end Go.Proofs.YtppijfjigcoifaaDoor

set_option linter.constructorNameAsVariable false
set_option maxRecDepth 100000
namespace Go.Proofs.YtppijfjigcoifaaDoor
open Go.ChangeShapes Go.WideShapes Go.ChangeAt Go.RowKit Go.Deep Go.WideElems

theorem own_knob : ownKnob Tryd.prog.godebug = none := by kernel_rfl
theorem laid_out : laidOutB Tryd.prog = true := by kernel_rfl
def pairData {H : Type} (x : Int × Int) : DataW H := .agg [.lit (.int .i32 x.1), .lit (.int .i32 x.2)]
theorem cells_pair : Tryd.prog.cellsOf 126 = 2 := by kernel_rfl
section
variable {H : Type} {enc : TypeId × Value → H} {w : World} {base : Nat} {sp : Nat → Bool} {hd : Bool} {fuel : Nat} {cs : List Value}
theorem num_lit {t : TypeId} {c : Value} {n : Int} {p : List MemPlace} (ht : Tryd.prog.underlying t = some (.int .i32)) (h : DataW.trod enc Tryd.prog w base sp hd fuel t [c] = some (.lit (.int .i32 n), p)) : c = .int .i32 n := by
 obtain ⟨m, hm, hx, _⟩ := DataW.trod_int ht h
 simp only [Prod.mk.injEq, DataW.lit.injEq, Lit.int.injEq, true_and] at hx
 simp only [List.cons.injEq, and_true] at hm
 rw [hm, hx.1]
theorem trod_pair {x : Int × Int} {p : List MemPlace} (h : DataW.trod enc Tryd.prog w base sp hd fuel 126 cs = some (pairData x, p)) : cs = [.int .i32 x.1, .int .i32 x.2] := by
 obtain ⟨xs, n, _, hx, hlen, hxl, hf⟩ := DataW.trod_array Tryd.underlying126 h
 rw [cells_pair] at hlen
 match cs, hlen, xs, hxl, hf, hx with
 | [c0, c1], _, [y0, y1], _, hf, hx =>
  have h0 := hf 0 (by omega)
  have h1 := hf 1 (by omega)
  simp only [cells_i32, Nat.zero_mul, Nat.one_mul, List.drop_zero, List.drop_succ_cons, List.take_succ_cons, List.take_zero, List.getElem?_cons_zero, List.getElem?_cons_succ] at h0 h1
  simp only [pairData, List.map_cons, List.map_nil, Prod.mk.injEq, DataW.agg.injEq, List.cons.injEq, and_true] at hx
  obtain ⟨y0a, y0b⟩ := y0
  obtain ⟨y1a, y1b⟩ := y1
  obtain ⟨⟨e0, e1⟩, _⟩ := hx
  simp only at e0 e1
  subst e0 e1
  rw [num_lit Tryd.underlying21 h0, num_lit Tryd.underlying21 h1]
theorem trod_table {t : TypeId} {tab : List (Int × Int)} {p : List MemPlace} (ht : Tryd.prog.underlying t = some (.array tab.length 126)) (h : DataW.trod enc Tryd.prog w base sp hd fuel t cs = some (.agg (tab.map pairData), p)) :
  ∀ k, k < tab.length → cs[k * 2]? = some (.int .i32 (loOf tab k)) ∧ cs[k * 2 + 1]? = some (.int .i32 (hiOf tab k)) := by
 obtain ⟨xs, n, _, hx, hlen, hxl, hf⟩ := DataW.trod_array ht h
 intro k hk
 have hkf := hf k hk
 rw [cells_pair] at hkf
 have hk2 : k < xs.length := by omega
 rw [List.getElem?_eq_getElem hk2] at hkf
 simp only [Prod.mk.injEq, DataW.agg.injEq] at hx
 have he : xs[k].1 = pairData tab[k] := by
  have := congrArg (fun l => l[k]?) hx.1
  simp only [List.getElem?_map, List.getElem?_eq_getElem hk, List.getElem?_eq_getElem hk2, Option.map_some, Option.some.injEq] at this
  exact this.symm
 have hp := trod_pair (x := tab[k]) (p := xs[k].2) (by rw [hkf, ← he])
 have g0 := congrArg (fun l => l[0]?) hp
 have g1 := congrArg (fun l => l[1]?) hp
 simp only [List.getElem?_take, List.getElem?_drop, List.getElem?_cons_zero, List.getElem?_cons_succ, Nat.add_zero] at g0 g1
 simp only [loOf, hiOf, List.getD_eq_getElem?_getD, List.getElem?_eq_getElem hk, Option.getD_some]
 exact ⟨by simpa using g0, by simpa using g1⟩
end
theorem pairs_of {W : World} {name : String} {g : Nat} {t : TypeId} {tab : List (Int × Int)} {cs : Array Value} {fuel : Nat} {p : List MemPlace} {base : Nat} {sp : Nat → Bool} {hd : Bool} {H : Type} {enc : TypeId × Value → H} (hg : Tryd.prog.globalNamed name = some g) (ht : Tryd.prog.underlying t = some (.array tab.length 126))
  (hv : W.var? Tryd.prog name = some cs) (h : DataW.trod enc Tryd.prog W base sp hd fuel t cs.toList = some (.agg (tab.map pairData), p)) (hn : 0 < tab.length) : Pairs W g tab.length (loOf tab) (hiOf tab) := by
 have hc := World.var?_cell hg hv
 have htb := trod_table ht h
 refine ⟨?_, fun k hk => ?_⟩
 ·have := (htb 0 hn).1
  have h0 := hc 0
  simp only [Nat.zero_mul, Array.getElem?_toList] at this
  rw [this] at h0
  exact block_lt_of_cell h0
 ·obtain ⟨h1, h2⟩ := htb k hk
  rw [hc, hc]
  exact ⟨by simpa using h1, by simpa using h2⟩
theorem tabs_of {W : World} (h : laidMetH Tryd.prog Rows.gridSizesRow.laid W) : Tabs W := by
 have h' : laidMet Tryd.prog Rows.gridSizesRow.laid W := h
 obtain ⟨ps, ⟨g, t, cs, fuel, p, q, hg, ht, hv, hd, ⟨g2, t2, cs2, fuel2, p2, q2, hg2, ht2, hv2, hd2, _⟩, _⟩, _⟩ := h'
 have e1 : Tryd.prog.globalNamed "scrollback/width.marks" = some 0 := by kernel_rfl
 have e2 : Tryd.prog.globalNamed "scrollback/width.wide" = some 1 := by kernel_rfl
 obtain rfl := Option.some.inj (e1.symm.trans hg)
 obtain rfl := Option.some.inj (e2.symm.trans hg2)
 have f1 : (Tryd.prog.globals[0]?).map (·.type) = some 127 := by kernel_rfl
 have f2 : (Tryd.prog.globals[1]?).map (·.type) = some 128 := by kernel_rfl
 obtain rfl := Option.some.inj (f1.symm.trans ht)
 obtain rfl := Option.some.inj (f2.symm.trans ht2)
 exact ⟨pairs_of (tab := marksTab) e1 Tryd.underlying127 hv hd (by decide), pairs_of (tab := wideTab) e2 Tryd.underlying128 hv2 hd2 (by decide)⟩
def setTab (n : Nat) (tab : List (Int × Int)) (h : Array Obj) : Array Obj := h.modify n fun
 | .cells _ t frozen => .cells (tab.flatMap fun x => [Value.int .i32 x.1, Value.int .i32 x.2]).toArray t frozen
 | o => o
noncomputable def laidWorld (os : Os) : World :=
 { World.holding Tryd.prog os ⟨#[], #[], []⟩ with heap := setTab 1 wideTab (setTab 0 marksTab (World.holding Tryd.prog os ⟨#[], #[], []⟩).heap) }
end Go.Proofs.YtppijfjigcoifaaDoor
