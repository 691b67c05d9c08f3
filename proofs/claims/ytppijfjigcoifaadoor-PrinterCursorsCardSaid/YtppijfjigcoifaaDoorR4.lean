/-
  Part 4 of the texts on which the proofs of this seat stand: each part says ahead of it what it shows.
-/
import Derived.Test.YtppijfjigcoifaaDoorR3
import Derived.Lib.MinMax
set_option linter.unusedSimpArgs false
set_option linter.unusedVariables false
namespace Go.Proofs.YtppijfjigcoifaaDoor
open Go.RowKit

theorem Blk.width4 {w : World} {g : Nat} {t : TypeId} {c : Cell} (h : Blk w g t (cv c)) : w.cell? ⟨g, 4, none⟩ = some (.int .i64 c.width) := (h.cell 4).trans rfl
theorem pcursor_size : (Tryd.prog.info? 48).map (·.size) = some 3 := by kernel_rfl
theorem Objs.setCur {w0 w : World} {os : List Ob} (h : Objs w0 w os) (k : Nat) {g : Nat} {t : TypeId} {x y z : Value} {r c : Int} {b : Bool} (hk : os[k]? = some (.box g t #[x, y, z])) : Objs w0 (((w.setCell ⟨g, 0, none⟩ (.int .i64 r)).setCell ⟨g, 1, none⟩ (.int .i64 c)).setCell ⟨g, 2, none⟩ (.bool b)) (os.set k (.box g t #[.int .i64 r, .int .i64 c, .bool b])) := by
 have hkl := (List.getElem?_eq_some_iff.1 hk).1
 have h1 := h.setBox k (i := 0) (u := .int .i64 r) hk
 have h2 := h1.setBox k (i := 1) (u := .int .i64 c) (g := g) (t := t) (cs := #[.int .i64 r, y, z]) (by rw [List.getElem?_set_self hkl]; simp)
 have h3 := h2.setBox k (i := 2) (u := .bool b) (g := g) (t := t) (cs := #[.int .i64 r, .int .i64 c, z]) (by rw [List.getElem?_set_self (by simpa using hkl)]; simp)
 simpa using h3
theorem tg4 {σ os : List Ob} {a b c d o : Ob} {k : Nat} (hl : σ.length = [a].length) (hk : os[k]? = some o) : (σ ++ (b :: c :: d :: os))[k + 4]? = some o := by
 match σ, hl with
 | [x], _ => exact hk
theorem tg4b {σ os : List Ob} {a b c d o : Ob} {k : Nat} (hl : σ.length = [a, b, c, d].length) (hk : os[k]? = some o) : (σ ++ os)[k + 4]? = some o := by
 match σ, hl with
 | [x, y, z, v], _ => exact hk
theorem of_ok {r : Int} {q : Pen} (hw : 1 ≤ wOf r) (hq : q.ok = true) : (⟨r, 0, 0, 0, wOf r, q⟩ : Cell).ok = true := by
 have hr : ¬ r = 0 := fun h => by rw [h, wOf_zero] at hw; omega
 have h0 : (0 : Int) < wOf r := by omega
 simp [Cell.ok, hq, hr, h0, Cell.marksOk, Cell.mOk, Cell.mark]
section
variable {w0 w : World} {os : List Ob} {k p cols : Nat} {L : List Ln}
set_option maxHeartbeats 4000000 in
theorem Print_no (row col : Int) (pend auto ins : Bool) (r : Int) (q : Pen) (hS : Objs w0 w os) (hk : os[k]? = some (.grid p 58 cols L)) (hc : 0 < cols) (hcm : cols ≤ 1000) (hL : 0 < L.length) (hin : inG row col pend L.length cols = false) :
  Calls Tryd.prog 38 #[.pointer (some ⟨p, 0, none⟩), .agg #[.int .i64 row, .int .i64 col, .bool pend], .int .i32 r, .agg (pv q), .bool auto, .bool ins] w fun e w' => e = .returned (.tuple #[.agg #[.int .i64 0, .int .i64 0, .bool false], .int .i64 2]) ∧ Objs w0 w' os := by
 have S0 := Lib.hid hS
 have HK := Lib.hid hk
 clear hS hk
 have HE := Lib.hid (show chkE row col pend L.length cols = 2 by unfold chkE; rw [hin]; rfl)
 clear hin
 go_enter Tryd.func38, Tryd.ntmps38
 go_upto_region 1 with (fail)
 refine at_objsC (S0.out.alloc3 (c1 := #[.int .i64 row, .int .i64 col, .bool pend]) (t1 := 48) (c2 := pv q) (t2 := 54) (c3 := #[.int .i64 0, .int .i64 0, .bool false]) (t3 := 48)) (fun W hW => ?_)
 generalize w.heap.size + 1 + 1 = b12 at hW ⊢
 generalize w.heap.size + 1 = b9 at hW ⊢
 generalize w.heap.size = b7 at hW ⊢
 have S1 := Lib.hid hW
 clear hW S0
 obtain ⟨hx7, hf7, hz7⟩ := (S1.out.box (k := 2) rfl).facts
 go_wp2_with fail
 clear hx7 hf7 hz7
 have hcon := prcheck_any row col pend S1.out (k := k + 3) HK.out hc hcm hL
 rw [HE.out] at hcon
 refine hcon.mono ?_
 rintro e w1 ⟨rfl, hS⟩
 have S2 := Lib.hid hS
 clear hS hcon S1
 obtain ⟨hx12, hf12, hz12⟩ := (S2.out.box (k := 0) rfl).facts
 have SF := Lib.hid (S2.out.setCur 0 (r := 0) (c := 0) (b := false) rfl)
 go_wp2_with fail
 refine bodyPost_ret (results_ct Tryd.results38 _ _ b12 _ _ rfl (SF.out.box (k := 0) rfl) Tryd.underlying48 rfl pcursor_size) rfl ?_
 exact ⟨rfl, SF.out.tail.tail.tail⟩
set_option maxHeartbeats 4000000 in
theorem Print_bad (row col : Int) (pend auto ins : Bool) (r : Int) (q : Pen) (hT : Tabs w0) (hS : Objs w0 w os) (hk : os[k]? = some (.grid p 58 cols L)) (hc : 0 < cols) (hcm : cols ≤ 1000) (hL : 0 < L.length) (hin : inG row col pend L.length cols = true) (hbad : wOf r < 1 ∨ q.ok = false) :
  Calls Tryd.prog 38 #[.pointer (some ⟨p, 0, none⟩), .agg #[.int .i64 row, .int .i64 col, .bool pend], .int .i32 r, .agg (pv q), .bool auto, .bool ins] w fun e w' => e = .returned (.tuple #[.agg #[.int .i64 0, .int .i64 0, .bool false], .int .i64 2]) ∧ Objs w0 w' os := by
 have S0 := Lib.hid hS
 have HK := Lib.hid hk
 clear hS hk
 have HT := Lib.hid hT
 have HE := Lib.hid (show chkE row col pend L.length cols = 0 by unfold chkE; rw [hin]; rfl)
 obtain ⟨n, hn⟩ : ∃ n, wOf r = n := ⟨_, rfl⟩
 have HW := Lib.hid hn
 rw [hn] at hbad
 clear hin hT hn
 by_cases h1 : n < 1
 ·clear hbad
  go_enter Tryd.func38, Tryd.ntmps38
  go_upto_region 1 with (fail)
  refine at_objsC (S0.out.alloc3 (c1 := #[.int .i64 row, .int .i64 col, .bool pend]) (t1 := 48) (c2 := pv q) (t2 := 54) (c3 := #[.int .i64 0, .int .i64 0, .bool false]) (t3 := 48)) (fun W hW => ?_)
  generalize w.heap.size + 1 + 1 = b12 at hW ⊢
  generalize w.heap.size + 1 = b9 at hW ⊢
  generalize w.heap.size = b7 at hW ⊢
  have S1 := Lib.hid hW
  clear hW S0
  obtain ⟨hx7, hf7, hz7⟩ := (S1.out.box (k := 2) rfl).facts
  go_wp2_with fail
  clear hx7 hf7 hz7
  have hcon := prcheck_any row col pend S1.out (k := k + 3) HK.out hc hcm hL
  rw [HE.out] at hcon
  refine hcon.mono ?_
  rintro e w1 ⟨rfl, hS⟩
  have S2 := Lib.hid hS
  clear hS hcon S1
  go_wp2_with fail
  refine (width_is HW.out _ (S2.out.tabs HT.out)).mono ?_
  rintro e w2 ⟨rfl, hb⟩
  have S3 := Lib.hid (S2.out.bel hb)
  clear hb S2
  have hp9 := (S3.out.box (k := 1) rfl).penAt
  have hp9z := (S3.out.box (k := 1) rfl).lt
  obtain ⟨hx7, hf7, hz7⟩ := (S3.out.box (k := 2) rfl).facts
  clear hp9 hp9z hx7 hf7 hz7
  obtain ⟨hx12, hf12, hz12⟩ := (S3.out.box (k := 0) rfl).facts
  have SF := Lib.hid (S3.out.setCur 0 (r := 0) (c := 0) (b := false) rfl)
  go_wp2_with fail
  refine bodyPost_ret (results_ct Tryd.results38 _ _ b12 _ _ rfl (SF.out.box (k := 0) rfl) Tryd.underlying48 rfl pcursor_size) rfl ?_
  exact ⟨rfl, SF.out.tail.tail.tail⟩
 ·have HQB := Lib.hid (show (blank q).ok = false by rw [ok_blank]; exact hbad.resolve_left h1)
  clear hbad
  go_enter Tryd.func38, Tryd.ntmps38
  go_upto_region 1 with (fail)
  refine at_objsC (S0.out.alloc3 (c1 := #[.int .i64 row, .int .i64 col, .bool pend]) (t1 := 48) (c2 := pv q) (t2 := 54) (c3 := #[.int .i64 0, .int .i64 0, .bool false]) (t3 := 48)) (fun W hW => ?_)
  generalize w.heap.size + 1 + 1 = b12 at hW ⊢
  generalize w.heap.size + 1 = b9 at hW ⊢
  generalize w.heap.size = b7 at hW ⊢
  have S1 := Lib.hid hW
  clear hW S0
  obtain ⟨hx7, hf7, hz7⟩ := (S1.out.box (k := 2) rfl).facts
  go_wp2_with fail
  clear hx7 hf7 hz7
  have hcon := prcheck_any row col pend S1.out (k := k + 3) HK.out hc hcm hL
  rw [HE.out] at hcon
  refine hcon.mono ?_
  rintro e w1 ⟨rfl, hS⟩
  have S2 := Lib.hid hS
  clear hS hcon S1
  go_wp2_with fail
  refine (width_is HW.out _ (S2.out.tabs HT.out)).mono ?_
  rintro e w2 ⟨rfl, hb⟩
  have S3 := Lib.hid (S2.out.bel hb)
  clear hb S2
  have hp9 := (S3.out.box (k := 1) rfl).penAt
  have hp9z := (S3.out.box (k := 1) rfl).lt
  obtain ⟨hx7, hf7, hz7⟩ := (S3.out.box (k := 2) rfl).facts
  go_wp2_with fail
  refine (cellBlank_any q _).mono ?_
  rintro e w3 ⟨rfl, hb⟩
  have S4 := Lib.hid (S3.out.bel hb)
  clear hb S3
  go_wp2_with fail
  refine (valid_no HQB.out _ (S4.out.tabs HT.out)).mono ?_
  rintro e w4 ⟨rfl, hb⟩
  have S5 := Lib.hid (S4.out.bel hb)
  clear hb S4
  clear hp9 hp9z hx7 hf7 hz7
  obtain ⟨hx12, hf12, hz12⟩ := (S5.out.box (k := 0) rfl).facts
  have SF := Lib.hid (S5.out.setCur 0 (r := 0) (c := 0) (b := false) rfl)
  go_wp2_with fail
  refine bodyPost_ret (results_ct Tryd.results38 _ _ b12 _ _ rfl (SF.out.box (k := 0) rfl) Tryd.underlying48 rfl pcursor_size) rfl ?_
  exact ⟨rfl, SF.out.tail.tail.tail⟩
set_option maxHeartbeats 4000000 in
theorem Print_wrap (row col : Int) (pend auto ins : Bool) (r : Int) (q : Pen) (hT : Tabs w0) (hS : Objs w0 w os) (hk : os[k]? = some (.grid p 58 cols L)) (hc : 0 < cols) (hcm : cols ≤ 1000) (hL : 0 < L.length) (hin : inG row col pend L.length cols = true) (hw : 1 ≤ wOf r) (hq : q.ok = true) (hwr : wrapB cols col pend auto (wOf r) = true) :
  Calls Tryd.prog 38 #[.pointer (some ⟨p, 0, none⟩), .agg #[.int .i64 row, .int .i64 col, .bool pend], .int .i32 r, .agg (pv q), .bool auto, .bool ins] w fun e w' => e = .returned (.tuple #[.agg #[.int .i64 0, .int .i64 0, .bool false], .int .i64 8]) ∧ Objs w0 w' os := by
 have S0 := Lib.hid hS
 have HK := Lib.hid hk
 clear hS hk
 have HT := Lib.hid hT
 have HE := Lib.hid (show chkE row col pend L.length cols = 0 by unfold chkE; rw [hin]; rfl)
 have HQB := Lib.hid (show (blank q).ok = true by rw [ok_blank]; exact hq)
 obtain ⟨n, hn⟩ : ∃ n, wOf r = n := ⟨_, rfl⟩
 have HW := Lib.hid hn
 rw [hn] at hw hwr
 have HWR := Lib.hid hwr
 clear hin hT hn hq hwr
 go_enter Tryd.func38, Tryd.ntmps38
 go_upto_region 1 with (fail)
 refine at_objsC (S0.out.alloc3 (c1 := #[.int .i64 row, .int .i64 col, .bool pend]) (t1 := 48) (c2 := pv q) (t2 := 54) (c3 := #[.int .i64 0, .int .i64 0, .bool false]) (t3 := 48)) (fun W hW => ?_)
 generalize w.heap.size + 1 + 1 = b12 at hW ⊢
 generalize w.heap.size + 1 = b9 at hW ⊢
 generalize w.heap.size = b7 at hW ⊢
 have S1 := Lib.hid hW
 clear hW S0
 obtain ⟨hx7, hf7, hz7⟩ := (S1.out.box (k := 2) rfl).facts
 go_wp2_with fail
 clear hx7 hf7 hz7
 have hcon := prcheck_any row col pend S1.out (k := k + 3) HK.out hc hcm hL
 rw [HE.out] at hcon
 refine hcon.mono ?_
 rintro e w1 ⟨rfl, hS⟩
 have S2 := Lib.hid hS
 clear hS hcon S1
 go_wp2_with fail
 refine (width_is HW.out _ (S2.out.tabs HT.out)).mono ?_
 rintro e w2 ⟨rfl, hb⟩
 have S3 := Lib.hid (S2.out.bel hb)
 clear hb S2
 have hp9 := (S3.out.box (k := 1) rfl).penAt
 have hp9z := (S3.out.box (k := 1) rfl).lt
 obtain ⟨hx7, hf7, hz7⟩ := (S3.out.box (k := 2) rfl).facts
 go_wp2_with fail
 refine (cellBlank_any q _).mono ?_
 rintro e w3 ⟨rfl, hb⟩
 have S4 := Lib.hid (S3.out.bel hb)
 clear hb S3
 go_wp2_with fail
 refine (valid_yes HQB.out _ (S4.out.tabs HT.out)).mono ?_
 rintro e w4 ⟨rfl, hb⟩
 have S5 := Lib.hid (S4.out.bel hb)
 clear hb S4
 clear hp9 hp9z hx7 hf7 hz7
 have hp9 := (S5.out.box (k := 1) rfl).penAt
 have hp9z := (S5.out.box (k := 1) rfl).lt
 obtain ⟨hx7, hf7, hz7⟩ := (S5.out.box (k := 2) rfl).facts
 go_wp2_with fail
 clear hp9 hp9z hx7 hf7 hz7
 have hcon := prwraps_any row col pend auto n S5.out (k := k + 3) HK.out hc hcm
 rw [HWR.out] at hcon
 refine hcon.mono ?_
 rintro e w5 ⟨rfl, hS⟩
 have S6 := Lib.hid hS
 clear hS hcon S5
 obtain ⟨hx12, hf12, hz12⟩ := (S6.out.box (k := 0) rfl).facts
 have SF := Lib.hid (S6.out.setCur 0 (r := 0) (c := 0) (b := false) rfl)
 go_wp2_with fail
 refine bodyPost_ret (results_ct Tryd.results38 _ _ b12 _ _ rfl (SF.out.box (k := 0) rfl) Tryd.underlying48 rfl pcursor_size) rfl ?_
 exact ⟨rfl, SF.out.tail.tail.tail⟩
set_option maxRecDepth 100000 in
set_option maxHeartbeats 16000000 in
theorem Print_yes {i j : Nat} (pend auto ins : Bool) (r : Int) (q : Pen) (hT : Tabs w0) (hS : Objs w0 w os) (hk : os[k]? = some (.grid p 58 cols L)) (hc : 0 < cols) (hcm : cols ≤ 1000) (hL : 0 < L.length) (hR : Rect cols L) (hin : inG i j pend L.length cols = true) (hw : 1 ≤ wOf r) (hq : q.ok = true) (hwr : wrapB cols j pend auto (wOf r) = false) (x0 : Cell) (hx0 : x0 = ⟨r, 0, 0, 0, wOf r, q⟩) :
  Calls Tryd.prog 38 #[.pointer (some ⟨p, 0, none⟩), .agg #[.int .i64 ↑i, .int .i64 ↑j, .bool pend], .int .i32 r, .agg (pv q), .bool auto, .bool ins] w fun e w' => e = .returned (.tuple #[.agg #[.int .i64 ↑i, .int .i64 ↑(prCol cols (prAt cols j (prCell cols x0)) (prCell cols x0)), .bool (prPend cols (prAt cols j (prCell cols x0)) (prCell cols x0) auto)], .int .i64 0]) ∧ Objs w0 w' (os.set k (.grid p 58 cols (printL i j cols x0 ins L))) := by
 have S0 := Lib.hid hS
 have HK := Lib.hid hk
 clear hS hk
 have HT := Lib.hid hT
 have HR := Lib.hid hR
 have HE := Lib.hid (show chkE i j pend L.length cols = 0 by unfold chkE; rw [hin]; rfl)
 have HQ := Lib.hid hq
 have HQB := Lib.hid (show (blank q).ok = true by rw [ok_blank]; exact hq)
 have hing := ingrid_iff.1 hin
 have hi : i < L.length := by omega
 have hj : j < cols := by omega
 have hw12 : x0.width = 1 ∨ x0.width = 2 := by rw [hx0]; show wOf r = 1 ∨ wOf r = 2; rcases wOf_cases r with h | h | h | h <;> omega
 have HXK := Lib.hid (show x0.ok = true by rw [hx0]; exact of_ok hw hq)
 obtain ⟨l, HOF, HX0⟩ : ∃ l, Hid (ofCells r q = (l, 0)) ∧ Hid (l[0]? = some x0) := by
  rw [hx0]
  unfold ofCells
  rw [if_neg (by rw [hq]; simp; omega)]
  by_cases h2 : wOf r = 2
  ·rw [if_pos h2, h2]; exact ⟨_, Lib.hid rfl, Lib.hid rfl⟩
  ·rw [if_neg h2, show wOf r = 1 by rcases wOf_cases r with h | h | h | h <;> omega]; exact ⟨_, Lib.hid rfl, Lib.hid rfl⟩
 obtain ⟨n, hn⟩ : ∃ n, wOf r = n := ⟨_, rfl⟩
 have HW := Lib.hid hn
 have HX00 := Lib.hid hx0
 rw [hn] at hw hwr
 have HWR := Lib.hid hwr
 have HWC := Lib.hid (show IntKind.i64.wrap ((cols : Int) - 1) = (cols : Int) - 1 from IntWalk.i64_in _ (by omega))
 obtain ⟨bw, hbw⟩ : ∃ bw, decide ((cols : Int) < x0.width) = bw := ⟨_, rfl⟩
 have HBW := Lib.hid hbw
 clear hin hT hR hn hq hwr hx0 hing hbw
 go_enter Tryd.func38, Tryd.ntmps38
 go_upto_region 1 with (fail)
 refine at_objsC (S0.out.alloc3 (c1 := #[.int .i64 ↑i, .int .i64 ↑j, .bool pend]) (t1 := 48) (c2 := pv q) (t2 := 54) (c3 := #[.int .i64 0, .int .i64 0, .bool false]) (t3 := 48)) (fun W hW => ?_)
 generalize w.heap.size + 1 + 1 = b12 at hW ⊢
 generalize w.heap.size + 1 = b9 at hW ⊢
 generalize w.heap.size = b7 at hW ⊢
 have S1 := Lib.hid hW
 clear hW S0
 obtain ⟨hx7, hf7, hz7⟩ := (S1.out.box (k := 2) rfl).facts
 go_wp2_with fail
 clear hx7 hf7 hz7
 have hcon := prcheck_any ↑i ↑j pend S1.out (k := k + 3) HK.out hc hcm hL
 rw [HE.out] at hcon
 refine hcon.mono ?_
 rintro e w1 ⟨rfl, hS⟩
 have S2 := Lib.hid hS
 clear hS hcon S1
 go_wp2_with fail
 refine (width_is HW.out _ (S2.out.tabs HT.out)).mono ?_
 rintro e w2 ⟨rfl, hb⟩
 have S3 := Lib.hid (S2.out.bel hb)
 clear hb S2
 have hp9 := (S3.out.box (k := 1) rfl).penAt
 have hp9z := (S3.out.box (k := 1) rfl).lt
 obtain ⟨hx7, hf7, hz7⟩ := (S3.out.box (k := 2) rfl).facts
 go_wp2_with fail
 refine (cellBlank_any q _).mono ?_
 rintro e w3 ⟨rfl, hb⟩
 have S4 := Lib.hid (S3.out.bel hb)
 clear hb S3
 go_wp2_with fail
 refine (valid_yes HQB.out _ (S4.out.tabs HT.out)).mono ?_
 rintro e w4 ⟨rfl, hb⟩
 have S5 := Lib.hid (S4.out.bel hb)
 clear hb S4
 clear hp9 hp9z hx7 hf7 hz7
 have hp9 := (S5.out.box (k := 1) rfl).penAt
 have hp9z := (S5.out.box (k := 1) rfl).lt
 obtain ⟨hx7, hf7, hz7⟩ := (S5.out.box (k := 2) rfl).facts
 go_wp2_with fail
 clear hp9 hp9z hx7 hf7 hz7
 have hcon := prwraps_any ↑i ↑j pend auto n S5.out (k := k + 3) HK.out hc hcm
 rw [HWR.out] at hcon
 refine hcon.mono ?_
 rintro e w5 ⟨rfl, hS⟩
 have S6 := Lib.hid hS
 clear hS hcon S5
 have hp9 := (S6.out.box (k := 1) rfl).penAt
 have hp9z := (S6.out.box (k := 1) rfl).lt
 obtain ⟨hx7, hf7, hz7⟩ := (S6.out.box (k := 2) rfl).facts
 go_wp2_with fail
 clear hp9 hp9z hx7 hf7 hz7
 have hcon := cellOf_any r q _ (S6.out.tabs HT.out)
 rw [HOF.out] at hcon
 refine hcon.mono ?_
 rintro e w6 ⟨vl, rfl, ho, hb⟩
 have hS := S6.out.newCells hb ho
 obtain ⟨gl, cl, rfl, -, -, -⟩ := hS.ownAt (k := 0) (j := 0) rfl HX0.out
 have S7 := Lib.hid hS
 have hl0 : 0 < l.length := (List.getElem?_eq_some_iff.1 HX0.out).1
 clear hS ho hb hcon S6
 go_upto_region 12 with (fail)
 refine wp_region_stage (w0 := w0) (os := os) (by kernel_rfl) (by kernel_rfl) (by kernel_rfl) [(0, 5, [5], fun vs => .box (blkOf (vs 5)) 71 (cv cell0)), (0, 6, [5], fun vs => .box (blkOf (vs 5)) 71 (cv x0))] [[], [], [1], [], [4], [0], [0], []] [.none, .cells (.slice (some ⟨gl, 0, none⟩) l.length cl) l, .box b12 48 #[.int .i64 0, .int .i64 0, .bool false], .box b9 54 (pv q), .box b7 48 #[.int .i64 ↑i, .int .i64 ↑j, .bool pend]] (fun opn u => match opn with | 0 => u = .slice (some ⟨gl, 0, none⟩) l.length cl | 1 => u = pt gl 0 | 2 => u = .agg (cv x0) | 3 => u = pt b7 1 | 4 => u = .int .i64 ↑j | 5 => ∃ g, u = pt g 0 | 6 => True | 7 => u = .int .i64 ↑j | _ => True) (fun vs => [.box (blkOf (vs 5)) 71 (cv x0), .cells (.slice (some ⟨gl, 0, none⟩) l.length cl) l, .box b12 48 #[.int .i64 0, .int .i64 0, .bool false], .box b9 54 (pv q), .box b7 48 #[.int .i64 ↑i, .int .i64 ↑j, .bool pend]]) (by kernel_rfl) (fun vs => by rfl) S7.out.pad ?_ ?_
 ·apply sc
  ·intro a w' vs σ hS hl hs hk
   have f16 : a.tmps[16]?.getD undef = .slice (some ⟨gl, 0, none⟩) l.length cl := sof hk
   exact rp (.slice (some ⟨gl, 0, none⟩) l.length cl) (by simp [execOp, Act.eval, f16, go_sem]) hl hs hS
  apply sc
  ·intro a w' vs σ hS hl hs hk
   have f56 : a.tmps[56]?.getD undef = .slice (some ⟨gl, 0, none⟩) l.length cl := sf hk 0
   exact rp (pt gl 0) (by simp [execOp, Act.eval, f56, go_sem, hl0]) hl hs hS
  apply sc
  ·intro a w' vs σ hS hl hs hk
   have f57 : a.tmps[57]?.getD undef = .pointer (some ⟨gl, 0, none⟩) := sf hk 1
   have hx : cellAt w' gl 0 = some x0 := by have := (cells_facts hS (sg (hs 1 (by decide))) (i := 0) (c := x0) HX0.out).2.2.1; simpa using this
   exact rp (.agg (cv x0)) (by simp [execOp, Act.eval, f57, go_sem, hx]) hl hs hS
  apply sc
  ·intro a w' vs σ hS hl hs hk
   have f7 : a.tmps[7]?.getD undef = .pointer (some ⟨b7, 0, none⟩) := sof hk
   exact rp (pt b7 1) (by simp [execOp, Act.eval, f7, go_sem]) hl hs hS
  apply sc
  ·intro a w' vs σ hS hl hs hk
   have f59 : a.tmps[59]?.getD undef = .pointer (some ⟨b7, 1, none⟩) := sf hk 3
   have hx := (hS.box (sg (hs 4 (by decide)))).cell
   exact rp (.int .i64 ↑j) (by simp [execOp, Act.eval, f59, go_sem, hx]) hl hs hS
  apply sc
  ·intro a w' vs σ hS hl hs hk
   have h1 : σ[0]? = some .none := hs 0 (by decide)
   exact rs_run (v' := .pointer (some ⟨w'.heap.size, 0, none⟩)) (w' := w'.alloc (.cells (cv cell0) 71)) (wanted_none rfl) (by first | (simp [execOp, go_sem]; done) | (simp [execOp, go_sem]; rfl) | rfl) (sp_set 0 (.box w'.heap.size 71 (cv cell0)) (by kernel_rfl) (by simp) (by decide) hl hs (by rfl) (hS.alloc1.place (sg h1)) ⟨_, rfl⟩)
  apply sc
  ·intro a w' vs σ hS hl hs hk
   have e18 : a.tmps.getD 18 undef = vs 5 := sk_val hk 5 (by kernel_rfl) rfl rfl
   have p18 : (fun u : Value => ∃ g, u = .pointer (some ⟨g, 0, none⟩)) (vs 5) := (hk.1 5 (by kernel_rfl)).1
   have f18 := gd e18
   have f58 : a.tmps[58]?.getD undef = .agg (cv x0) := sf hk 2
   obtain ⟨g9, q9⟩ := p18
   have h1 : σ[0]? = some (.box (blkOf (vs 5)) 71 (cv cell0)) := hs 0 (by decide)
   rw [q9, show blkOf (.pointer (some ⟨g9, 0, none⟩)) = g9 from rfl] at h1
   have hst := store_cv_row w' g9 (cv cell0) x0 (hS.box (sg h1)) (cv_size _)
   exact rstep_store (w2 := w'.setRow g9 (cv x0)) (wanted_none rfl) rfl (by simp [execOp, Act.eval, e18, f18, f58, q9, hst, go_sem]) (sp_set 0 (.box g9 71 (cv x0)) (by kernel_rfl) (by simp) (by decide) hl hs (by show Ob.box (blkOf (vs 5)) 71 (cv x0) = _; rw [q9]; rfl) (hS.rowBox 0 (ds := cv x0) (sg h1)) trivial) trivial
  apply sc
  ·intro a w' vs σ hS hl hs hk
   have f60 : a.tmps[60]?.getD undef = .int .i64 ↑j := sf hk 4
   exact rp (.int .i64 ↑j) (by simp [execOp, Act.eval, f60, go_sem]) hl hs hS
  exact SSteps.nil
 ·intro vs w' hS hv
  have q0 : vs 0 = _ := hv 0 (by decide)
  have q1 : vs 1 = _ := hv 1 (by decide)
  have q2 : vs 2 = _ := hv 2 (by decide)
  have q3 : vs 3 = _ := hv 3 (by decide)
  have q4 : vs 4 = _ := hv 4 (by decide)
  have q7 : vs 7 = _ := hv 7 (by decide)
  obtain ⟨b18, q5⟩ := (show ∃ g, vs 5 = .pointer (some ⟨g, 0, none⟩) from hv 5 (by decide))
  rw [q5, show blkOf (.pointer (some ⟨b18, 0, none⟩)) = b18 from rfl] at hS
  have S2 := Lib.hid hS
  simp only [putL, Act.put, Nat.zero_add, Nat.reduceAdd, List.setIfInBounds_toArray, List.set_cons_succ, List.set_cons_zero, q0, q1, q2, q3, q4, q7]
  clear hS hv q0 q1 q2 q3 q4 q7
  simp only [q5]
  have S9 := Lib.hid (show Objs w0 _ (.box b18 71 (cv x0) :: .box b12 48 #[.int .i64 0, .int .i64 0, .bool false] :: .box b9 54 (pv q) :: .box b7 48 #[.int .i64 ↑i, .int .i64 ↑j, .bool pend] :: os) from (Objs.pick (σ := [_, _, _, _, _]) (os := os) S2.out [some 0, some 2, some 3, some 4] (by decide) rfl))
  clear S2 S7 q5
  go_upto_region 13 with (fail)
  refine wp_region_stage (w0 := w0) (os := (.box b12 48 #[.int .i64 0, .int .i64 0, .bool false] :: .box b9 54 (pv q) :: .box b7 48 #[.int .i64 ↑i, .int .i64 ↑j, .bool pend] :: os)) (by kernel_rfl) (by kernel_rfl) (by kernel_rfl) [] [[], [0], [], [], []] [.box b18 71 (cv x0)] (fun opn u => match opn with | 0 => u = pt b18 4 | 1 => u = .int .i64 x0.width | 2 => u = pt p 0 | 3 => u = .int .i64 ↑cols | 4 => u = .bool bw | _ => True) (fun vs => [.box b18 71 (cv x0)]) (by kernel_rfl) (fun vs => by rfl) S9.out ?_ ?_
  ·apply sc
   ·intro a w' vs σ hS hl hs hk
    have f18 : a.tmps[18]?.getD undef = .pointer (some ⟨b18, 0, none⟩) := sof hk
    exact rp (pt b18 4) (by simp [execOp, Act.eval, f18, go_sem]) hl hs hS
   apply sc
   ·intro a w' vs σ hS hl hs hk
    have f61 : a.tmps[61]?.getD undef = .pointer (some ⟨b18, 4, none⟩) := sf hk 0
    have hx := (hS.box (sg (hs 0 (by decide)))).cell
    exact rp (.int .i64 x0.width) (by simp [execOp, Act.eval, f61, go_sem, hx]) hl hs hS
   apply sc
   ·intro a w' vs σ hS hl hs hk
    have f0 : a.tmps[0]?.getD undef = .pointer (some ⟨p, 0, none⟩) := sof hk
    exact rp (pt p 0) (by simp [execOp, Act.eval, f0, go_sem]) hl hs hS
   apply sc
   ·intro a w' vs σ hS hl hs hk
    have e63 : a.tmps.getD 63 undef = .pointer (some ⟨p, 0, none⟩) := sv hk 2
    exact ro_call (f := 18) (wanted_none rfl) rfl (by simp only [List.map_toArray, List.map_cons, List.map_nil, Act.eval, e63] <;> rfl) (fun _ _ => by kernel_rfl) ((Cols_any hS (k := k + 4) (by simpa using tg4 hl HK.out)).mono fun e w2 ⟨h1, h2⟩ => ⟨_, h1, sp_same (by kernel_rfl) hl hs h2 rfl, trivial⟩)
   apply sc
   ·intro a w' vs σ hS hl hs hk
    have f62 : a.tmps[62]?.getD undef = .int .i64 x0.width := sf hk 1
    have f64 : a.tmps[64]?.getD undef = .int .i64 ↑cols := sf hk 3
    exact rp (.bool bw) (by simp [execOp, Act.eval, f62, f64, go_sem, HBW.out]) hl hs hS
   exact SSteps.nil
  ·intro vs w' hS hv
   have q0 : vs 0 = _ := hv 0 (by decide)
   have q1 : vs 1 = _ := hv 1 (by decide)
   have q2 : vs 2 = _ := hv 2 (by decide)
   have q3 : vs 3 = _ := hv 3 (by decide)
   have q4 : vs 4 = _ := hv 4 (by decide)
   have S2 := Lib.hid hS
   simp only [putL, Act.put, Nat.zero_add, Nat.reduceAdd, List.setIfInBounds_toArray, List.set_cons_succ, List.set_cons_zero, q0, q1, q2, q3, q4]
   clear hS hv q0 q1 q2 q3 q4
   have S10 := S2
   clear S2 S9
   obtain ⟨x, hx⟩ : ∃ x, prCell cols x0 = x := ⟨_, rfl⟩
   obtain ⟨hxw, hxc⟩ := prCell_width (x := x0) hc hw12
   rw [hx] at hxw hxc
   have hxn : x.width = (x.width.toNat : Int) ∧ 1 ≤ x.width.toNat ∧ x.width.toNat ≤ 2 := by rcases hxw with h | h <;> rw [h] <;> decide
   have HXN := Lib.hid hxn
   have HXC := Lib.hid hx
   have HXP := Lib.hid (show x.pen = q by rw [← hx]; unfold prCell; split <;> (rw [HX00.out]; try rfl))
   have HXO := Lib.hid (show x.ok = true by rw [← hx]; unfold prCell; split; (rw [ok_blank, HX00.out]; exact HQ.out); exact HXK.out)
   have HXZ := Lib.hid (show ¬ x.width = 0 by omega)
   obtain ⟨hfit, hat, -, -⟩ := prAt_fits (x := x) (j := j) hj hxw hxc
   obtain ⟨at_, hat_⟩ : ∃ at_, prAt cols j x = at_ := ⟨_, rfl⟩
   rw [hat_] at hfit hat
   have HAT := Lib.hid hat_
   have HFT := Lib.hid hfit
   have HWS := Lib.hid (show IntKind.i64.wrap ((cols : Int) - x.width) = (cols : Int) - x.width from IntWalk.i64_in _ (by omega))
   have HWA := Lib.hid (show IntKind.i64.wrap ((at_ : Int) + x.width) = (at_ : Int) + x.width from IntWalk.i64_in _ (by omega))
   have HMIN := Lib.hid (show min (j : Int) ((cols : Int) - x.width) = (at_ : Int) by rw [← hat_]; unfold prAt; omega)
   clear hx hxw hxc hxn hat_ hfit
   have hbw : bw = decide ((cols : Int) < x0.width) := HBW.out.symm
   cases bw with
   | true =>
    have HXB := Lib.hid (show x = blank q by rw [← HXC.out]; unfold prCell; rw [if_pos (of_decide_eq_true hbw.symm), HX00.out])
    clear hbw
    have hp9 := (S10.out.box (k := 2) rfl).penAt
    have hp9z := (S10.out.box (k := 2) rfl).lt
    obtain ⟨hx7, hf7, hz7⟩ := (S10.out.box (k := 3) rfl).facts
    have hc18 := (S10.out.box (k := 0) rfl).cellAt
    have hw18 := (S10.out.box (k := 0) rfl).width4
    go_wp2_with fail
    clear hp9 hp9z hx7 hf7 hz7 hc18 hw18
    refine (cellBlank_any q _).mono ?_
    rintro e w5 ⟨rfl, hb⟩
    have hS := S10.out.bel hb
    have hst := store_cv_row w5 b18 (cv x0) (blank q) (hS.box (k := 0) rfl) (cv_size _)
    have S12 := Lib.hid (show Objs w0 (w5.setRow b18 (cv (blank q))) (.box b18 71 (cv x) :: .box b12 48 #[.int .i64 0, .int .i64 0, .bool false] :: .box b9 54 (pv q) :: .box b7 48 #[.int .i64 ↑i, .int .i64 ↑j, .bool pend] :: os) from by rw [HXB.out]; exact hS.rowBox 0 (ds := cv (blank q)) rfl)
    clear hb hS S10
    go_upto_region 15 with (fail)
    refine wp_region_stage (w0 := w0) (os := (.box b12 48 #[.int .i64 0, .int .i64 0, .bool false] :: .box b9 54 (pv q) :: .box b7 48 #[.int .i64 ↑i, .int .i64 ↑j, .bool pend] :: os)) (by kernel_rfl) (by kernel_rfl) (by kernel_rfl) [] [[], [], [], [], [0], [], [], []] [.box b18 71 (cv x)] (fun opn u => match opn with | 0 => u = .int .i64 ↑j | 1 => u = pt p 0 | 2 => u = .int .i64 ↑cols | 3 => u = pt b18 4 | 4 => u = .int .i64 x.width | 5 => u = .int .i64 (↑cols - x.width) | 6 => u = .int .i64 ↑at_ | 7 => u = .int .i64 ↑at_ | _ => True) (fun vs => [.box b18 71 (cv x)]) (by kernel_rfl) (fun vs => by rfl) S12.out ?_ ?_
    ·apply sc
     ·intro a w' vs σ hS hl hs hk
      have e19 : a.tmps.getD 19 undef = .int .i64 ↑j := (sk_later hk 7 (by kernel_rfl) rfl rfl).trans rfl
      have f19 := gd e19
      exact rp (.int .i64 ↑j) (by simp [execOp, Act.eval, e19, f19, go_sem]) hl hs hS
     apply sc
     ·intro a w' vs σ hS hl hs hk
      have f0 : a.tmps[0]?.getD undef = .pointer (some ⟨p, 0, none⟩) := sof hk
      exact rp (pt p 0) (by simp [execOp, Act.eval, f0, go_sem]) hl hs hS
     apply sc
     ·intro a w' vs σ hS hl hs hk
      have e69 : a.tmps.getD 69 undef = .pointer (some ⟨p, 0, none⟩) := sv hk 1
      exact ro_call (f := 18) (wanted_none rfl) rfl (by simp only [List.map_toArray, List.map_cons, List.map_nil, Act.eval, e69] <;> rfl) (fun _ _ => by kernel_rfl) ((Cols_any hS (k := k + 4) (by simpa using tg4 hl HK.out)).mono fun e w2 ⟨h1, h2⟩ => ⟨_, h1, sp_same (by kernel_rfl) hl hs h2 rfl, trivial⟩)
     apply sc
     ·intro a w' vs σ hS hl hs hk
      have f18 : a.tmps[18]?.getD undef = .pointer (some ⟨b18, 0, none⟩) := sof hk
      exact rp (pt b18 4) (by simp [execOp, Act.eval, f18, go_sem]) hl hs hS
     apply sc
     ·intro a w' vs σ hS hl hs hk
      have f71 : a.tmps[71]?.getD undef = .pointer (some ⟨b18, 4, none⟩) := sf hk 3
      have hx := (hS.box (sg (hs 0 (by decide)))).cell
      exact rp (.int .i64 x.width) (by simp [execOp, Act.eval, f71, go_sem, hx]) hl hs hS
     apply sc
     ·intro a w' vs σ hS hl hs hk
      have f70 : a.tmps[70]?.getD undef = .int .i64 ↑cols := sf hk 2
      have f72 : a.tmps[72]?.getD undef = .int .i64 x.width := sf hk 4
      exact rp (.int .i64 (↑cols - x.width)) (by simp [execOp, Act.eval, f70, f72, go_sem, HWS.out]) hl hs hS
     apply sc
     ·intro a w' vs σ hS hl hs hk
      have f68 : a.tmps[68]?.getD undef = .int .i64 ↑j := sf hk 0
      have f73 : a.tmps[73]?.getD undef = .int .i64 (↑cols - x.width) := sf hk 5
      have hmin := HMIN.out
      exact rp (.int .i64 ↑at_) (by simp [execOp, Act.eval, f68, f73, go_sem, hmin]) hl hs hS
     apply sc
     ·intro a w' vs σ hS hl hs hk
      have f74 : a.tmps[74]?.getD undef = .int .i64 ↑at_ := sf hk 6
      exact rp (.int .i64 ↑at_) (by simp [execOp, Act.eval, f74, go_sem]) hl hs hS
     exact SSteps.nil
    ·intro vs w' hS hv
     have q0 : vs 0 = _ := hv 0 (by decide)
     have q1 : vs 1 = _ := hv 1 (by decide)
     have q2 : vs 2 = _ := hv 2 (by decide)
     have q3 : vs 3 = _ := hv 3 (by decide)
     have q4 : vs 4 = _ := hv 4 (by decide)
     have q5 : vs 5 = _ := hv 5 (by decide)
     have q6 : vs 6 = _ := hv 6 (by decide)
     have q7 : vs 7 = _ := hv 7 (by decide)
     have S2 := Lib.hid hS
     simp only [putL, Act.put, Nat.zero_add, Nat.reduceAdd, List.setIfInBounds_toArray, List.set_cons_succ, List.set_cons_zero, q0, q1, q2, q3, q4, q5, q6, q7]
     clear hS hv q0 q1 q2 q3 q4 q5 q6 q7
     have S13 := S2
     clear S2 S12
     cases ins with
     | false =>
      have HFIN := Lib.hid (show printL i j cols x0 false L = rowMod i (putC at_ x) L by unfold printL; rw [HXC.out, HAT.out]; rfl)
      have hp9 := (S13.out.box (k := 2) rfl).penAt
      have hp9z := (S13.out.box (k := 2) rfl).lt
      obtain ⟨hx7, hf7, hz7⟩ := (S13.out.box (k := 3) rfl).facts
      have hc18 := (S13.out.box (k := 0) rfl).cellAt
      have hw18 := (S13.out.box (k := 0) rfl).width4
      go_wp2_with fail
      clear hp9 hp9z hx7 hf7 hz7 hc18 hw18
      refine (PutG (i := i) (j := at_) x HT.out S13.out (k := k + 4) HK.out hcm HR.out hi HXO.out HXZ.out HFT.out).mono ?_
      rintro e w7 ⟨rfl, hS⟩
      have S14 := Lib.hid hS
      clear hS S13
      obtain ⟨os2, hos2⟩ : ∃ os2, os2 = os.set k (.grid p 58 cols (rowMod i (putC at_ x) L)) := ⟨_, rfl⟩
      have HK2 := Lib.hid (show os2[k]? = some (.grid p 58 cols (rowMod i (putC at_ x) L)) by rw [hos2]; exact set_at HK.out)
      have HOS := Lib.hid hos2
      have S19 := Lib.hid (show Objs w0 _ (.box b18 71 (cv x) :: .box b12 48 #[.int .i64 0, .int .i64 0, .bool false] :: .box b9 54 (pv q) :: .box b7 48 #[.int .i64 ↑i, .int .i64 ↑j, .bool pend] :: os2) from by rw [hos2]; exact S14.out)
      clear hos2 S14
      have hw18 := (S19.out.box (k := 0) rfl).width4
      have hwa := HWA.out
      go_wp2_with fail
      clear hw18 hwa
      refine (Cols_any S19.out (k := k + 4) HK2.out).mono ?_
      rintro e w8 ⟨rfl, hS⟩
      have S20 := Lib.hid hS
      clear hS S19
      by_cases hend : (at_ : Int) + x.width < cols
      ·have d1 : decide ((at_ : Int) + x.width < (cols : Int)) = true := decide_eq_true hend
       have HP1 := Lib.hid (show ((prCol cols at_ x : Nat) : Int) = (at_ : Int) + x.width by unfold prCol; rw [if_pos (by have := HXN.out; omega)]; have := HXN.out; omega)
       have HP2 := Lib.hid (show prPend cols at_ x auto = false by unfold prPend; rw [if_pos (by have := HXN.out; omega)])
       obtain ⟨hx7, hf7, hz7⟩ := (S20.out.box (k := 3) rfl).facts
       obtain ⟨hx12, hf12, hz12⟩ := (S20.out.box (k := 1) rfl).facts
       have SF := Lib.hid (S20.out.setCur 1 (r := ↑i) (c := ↑at_ + x.width) (b := false) rfl)
       clear hend
       go_wp2_with fail
       refine bodyPost_ret (results_ct Tryd.results38 _ _ b12 _ _ rfl (SF.out.box (k := 1) rfl) Tryd.underlying48 rfl pcursor_size) rfl ?_
       exact ⟨by rw [HXC.out, HAT.out, HP1.out, HP2.out]; rfl, by rw [HFIN.out, ← HOS.out]; exact SF.out.tail.tail.tail.tail⟩
      ·have d1 : decide ((at_ : Int) + x.width < (cols : Int)) = false := decide_eq_false hend
       have HP1 := Lib.hid (show ((prCol cols at_ x : Nat) : Int) = (cols : Int) - 1 by unfold prCol; rw [if_neg (by have := HXN.out; omega)]; omega)
       have HP2 := Lib.hid (show prPend cols at_ x auto = auto by unfold prPend; rw [if_neg (by have := HXN.out; omega)])
       clear hend
       go_upto_region 26 with (fail)
       refine wp_region_stage (w0 := w0) (os := os2) (by kernel_rfl) (by kernel_rfl) (by kernel_rfl) [(1, 7, [], fun vs => .box b12 48 #[.int .i64 ↑i, .int .i64 (↑cols - 1), .bool auto])] [[], [3], [], [], [], [], [], [1], []] [.box b18 71 (cv x), .box b12 48 #[.int .i64 0, .int .i64 0, .bool false], .box b9 54 (pv q), .box b7 48 #[.int .i64 ↑i, .int .i64 ↑j, .bool pend]] (fun opn u => match opn with | 0 => u = pt b7 0 | 1 => u = .int .i64 ↑i | 2 => u = pt p 0 | 3 => u = .int .i64 ↑cols | 4 => u = .int .i64 (↑cols - 1) | 5 => u = .bool auto | 6 => u = .agg #[.int .i64 ↑i, .int .i64 (↑cols - 1), .bool auto] | 7 => True | 8 => u = .int .i64 0 | _ => True) (fun vs => [.box b18 71 (cv x), .box b12 48 #[.int .i64 ↑i, .int .i64 (↑cols - 1), .bool auto], .box b9 54 (pv q), .box b7 48 #[.int .i64 ↑i, .int .i64 ↑j, .bool pend]]) (by kernel_rfl) (fun vs => by rfl) S20.out ?_ ?_
       ·apply sc
        ·intro a w' vs σ hS hl hs hk
         have f7 : a.tmps[7]?.getD undef = .pointer (some ⟨b7, 0, none⟩) := sof hk
         exact rp (pt b7 0) (by simp [execOp, Act.eval, f7, go_sem]) hl hs hS
        apply sc
        ·intro a w' vs σ hS hl hs hk
         have f111 : a.tmps[111]?.getD undef = .pointer (some ⟨b7, 0, none⟩) := sf hk 0
         have hx := (hS.box (sg (hs 3 (by decide)))).cell
         exact rp (.int .i64 ↑i) (by simp [execOp, Act.eval, f111, go_sem, hx]) hl hs hS
        apply sc
        ·intro a w' vs σ hS hl hs hk
         have f0 : a.tmps[0]?.getD undef = .pointer (some ⟨p, 0, none⟩) := sof hk
         exact rp (pt p 0) (by simp [execOp, Act.eval, f0, go_sem]) hl hs hS
        apply sc
        ·intro a w' vs σ hS hl hs hk
         have e113 : a.tmps.getD 113 undef = .pointer (some ⟨p, 0, none⟩) := sv hk 2
         exact ro_call (f := 18) (wanted_none rfl) rfl (by simp only [List.map_toArray, List.map_cons, List.map_nil, Act.eval, e113] <;> rfl) (fun _ _ => by kernel_rfl) ((Cols_any hS (k := k + 4) (by simpa using tg4b hl HK2.out)).mono fun e w2 ⟨h1, h2⟩ => ⟨_, h1, sp_same (by kernel_rfl) hl hs h2 rfl, trivial⟩)
        apply sc
        ·intro a w' vs σ hS hl hs hk
         have f114 : a.tmps[114]?.getD undef = .int .i64 ↑cols := sf hk 3
         exact rp (.int .i64 (↑cols - 1)) (by simp [execOp, Act.eval, f114, go_sem, HWC.out]) hl hs hS
        apply sc
        ·intro a w' vs σ hS hl hs hk
         have f4 : a.tmps[4]?.getD undef = .bool auto := sof hk
         exact rp (.bool auto) (by simp [execOp, Act.eval, f4, go_sem]) hl hs hS
        apply sc
        ·intro a w' vs σ hS hl hs hk
         have f112 : a.tmps[112]?.getD undef = .int .i64 ↑i := sf hk 1
         have f115 : a.tmps[115]?.getD undef = .int .i64 (↑cols - 1) := sf hk 4
         have f116 : a.tmps[116]?.getD undef = .bool auto := sf hk 5
         exact rp (.agg #[.int .i64 ↑i, .int .i64 (↑cols - 1), .bool auto]) (by simp [execOp, Act.eval, f112, f115, f116, go_sem]) hl hs hS
        apply sc
        ·intro a w' vs σ hS hl hs hk
         have f12 : a.tmps[12]?.getD undef = .pointer (some ⟨b12, 0, none⟩) := sof hk
         have f117 : a.tmps[117]?.getD undef = .agg #[.int .i64 ↑i, .int .i64 (↑cols - 1), .bool auto] := sf hk 6
         have h1 : σ[1]? = some (.box b12 48 #[.int .i64 0, .int .i64 0, .bool false]) := hs 1 (by decide)
         obtain ⟨hx, hf, hz⟩ := (hS.box (sg h1)).facts
         exact rstep_store (w2 := ((w'.setCell ⟨b12, 0, none⟩ (.int .i64 ↑i)).setCell ⟨b12, 1, none⟩ (.int .i64 (↑cols - 1))).setCell ⟨b12, 2, none⟩ (.bool auto)) (wanted_none rfl) rfl (by simp [execOp, Act.eval, f12, f117, hx, hf, hz, go_sem]) (sp_set 1 (.box b12 48 #[.int .i64 ↑i, .int .i64 (↑cols - 1), .bool auto]) (by kernel_rfl) (by simp) (by decide) hl hs (by rfl) (hS.setCur 1 (sg h1)) trivial) trivial
        apply sc
        ·intro a w' vs σ hS hl hs hk
         exact rp (.int .i64 0) (by simp [execOp, Act.eval, go_sem]) hl hs hS
        exact SSteps.nil
       ·intro vs w' hS hv
        have q0 : vs 0 = _ := hv 0 (by decide)
        have q1 : vs 1 = _ := hv 1 (by decide)
        have q2 : vs 2 = _ := hv 2 (by decide)
        have q3 : vs 3 = _ := hv 3 (by decide)
        have q4 : vs 4 = _ := hv 4 (by decide)
        have q5 : vs 5 = _ := hv 5 (by decide)
        have q6 : vs 6 = _ := hv 6 (by decide)
        have q8 : vs 8 = _ := hv 8 (by decide)
        have S2 := Lib.hid hS
        simp only [putL, Act.put, Nat.zero_add, Nat.reduceAdd, List.setIfInBounds_toArray, List.set_cons_succ, List.set_cons_zero, q0, q1, q2, q3, q4, q5, q6, q8]
        clear hS hv q0 q1 q2 q3 q4 q5 q6 q8
        have SF := S2
        clear S2
        go_wp2_with fail
        refine bodyPost_ret (results_ct Tryd.results38 _ _ b12 _ _ rfl (SF.out.box (k := 1) rfl) Tryd.underlying48 rfl pcursor_size) rfl ?_
        exact ⟨by rw [HXC.out, HAT.out, HP1.out, HP2.out]; rfl, by rw [HFIN.out, ← HOS.out]; exact SF.out.tail.tail.tail.tail⟩
     | true =>
      have HFIN := Lib.hid (show printL i j cols x0 true L = rowMod i (putC at_ x) (rowMod i (shiftN at_ cols x.width q) L) by
       unfold printL; rw [HXC.out, HAT.out, rowMod_is, rowMod_is, rowMod_is, lnMod_lnMod]; unfold prRow; rw [HXP.out]; rfl)
      have hp9 := (S13.out.box (k := 2) rfl).penAt
      have hp9z := (S13.out.box (k := 2) rfl).lt
      obtain ⟨hx7, hf7, hz7⟩ := (S13.out.box (k := 3) rfl).facts
      have hc18 := (S13.out.box (k := 0) rfl).cellAt
      have hw18 := (S13.out.box (k := 0) rfl).width4
      go_wp2_with fail
      clear hp9 hp9z hx7 hf7 hz7 hc18 hw18
      refine (ShiftG (i := i) (j := at_) x.width q HT.out S13.out (k := k + 4) HK.out hcm HR.out hi HQ.out hat (by have := HXN.out; omega)).mono ?_
      rintro e w6 ⟨rfl, hS⟩
      obtain ⟨L1, hL1⟩ : ∃ L1, L1 = rowMod i (shiftN at_ cols x.width q) L := ⟨_, rfl⟩
      have HR1 := Lib.hid (show Rect cols L1 by rw [hL1]; exact HR.out.rowMod i (fun cs h => shiftN_length h hat))
      have hi1 : i < L1.length := by rw [hL1, rowMod_length]; exact hi
      rw [← hL1] at hS HFIN
      obtain ⟨os1, hos1⟩ : ∃ os1, os1 = os.set k (.grid p 58 cols L1) := ⟨_, rfl⟩
      have HK1 := Lib.hid (show os1[k]? = some (.grid p 58 cols L1) by rw [hos1]; exact set_at HK.out)
      have HOS1 := Lib.hid (show ∀ o, os1.set k o = os.set k o from fun o => by rw [hos1, List.set_set])
      have S14 := Lib.hid (show Objs w0 w6 (.box b18 71 (cv x) :: .box b12 48 #[.int .i64 0, .int .i64 0, .bool false] :: .box b9 54 (pv q) :: .box b7 48 #[.int .i64 ↑i, .int .i64 ↑j, .bool pend] :: os1) from by rw [hos1]; exact hS)
      clear hS S13 hL1 hos1
      have hp9 := (S14.out.box (k := 2) rfl).penAt
      have hp9z := (S14.out.box (k := 2) rfl).lt
      obtain ⟨hx7, hf7, hz7⟩ := (S14.out.box (k := 3) rfl).facts
      have hc18 := (S14.out.box (k := 0) rfl).cellAt
      have hw18 := (S14.out.box (k := 0) rfl).width4
      go_wp2_with fail
      clear hp9 hp9z hx7 hf7 hz7 hc18 hw18
      refine (PutG (i := i) (j := at_) x HT.out S14.out (k := k + 4) HK1.out hcm HR1.out hi1 HXO.out HXZ.out HFT.out).mono ?_
      rintro e w7 ⟨rfl, hS⟩
      have S15 := Lib.hid (show Objs w0 w7 (.box b18 71 (cv x) :: .box b12 48 #[.int .i64 0, .int .i64 0, .bool false] :: .box b9 54 (pv q) :: .box b7 48 #[.int .i64 ↑i, .int .i64 ↑j, .bool pend] :: os.set k (.grid p 58 cols (rowMod i (putC at_ x) L1))) from by rw [← HOS1.out]; exact hS)
      clear hS S14
      obtain ⟨os2, hos2⟩ : ∃ os2, os2 = os.set k (.grid p 58 cols (rowMod i (putC at_ x) L1)) := ⟨_, rfl⟩
      have HK2 := Lib.hid (show os2[k]? = some (.grid p 58 cols (rowMod i (putC at_ x) L1)) by rw [hos2]; exact set_at HK.out)
      have HOS := Lib.hid hos2
      have S19 := Lib.hid (show Objs w0 _ (.box b18 71 (cv x) :: .box b12 48 #[.int .i64 0, .int .i64 0, .bool false] :: .box b9 54 (pv q) :: .box b7 48 #[.int .i64 ↑i, .int .i64 ↑j, .bool pend] :: os2) from by rw [hos2]; exact S15.out)
      clear hos2 S15
      have hw18 := (S19.out.box (k := 0) rfl).width4
      have hwa := HWA.out
      go_wp2_with fail
      clear hw18 hwa
      refine (Cols_any S19.out (k := k + 4) HK2.out).mono ?_
      rintro e w8 ⟨rfl, hS⟩
      have S20 := Lib.hid hS
      clear hS S19
      by_cases hend : (at_ : Int) + x.width < cols
      ·have d1 : decide ((at_ : Int) + x.width < (cols : Int)) = true := decide_eq_true hend
       have HP1 := Lib.hid (show ((prCol cols at_ x : Nat) : Int) = (at_ : Int) + x.width by unfold prCol; rw [if_pos (by have := HXN.out; omega)]; have := HXN.out; omega)
       have HP2 := Lib.hid (show prPend cols at_ x auto = false by unfold prPend; rw [if_pos (by have := HXN.out; omega)])
       obtain ⟨hx7, hf7, hz7⟩ := (S20.out.box (k := 3) rfl).facts
       obtain ⟨hx12, hf12, hz12⟩ := (S20.out.box (k := 1) rfl).facts
       have SF := Lib.hid (S20.out.setCur 1 (r := ↑i) (c := ↑at_ + x.width) (b := false) rfl)
       clear hend
       go_wp2_with fail
       refine bodyPost_ret (results_ct Tryd.results38 _ _ b12 _ _ rfl (SF.out.box (k := 1) rfl) Tryd.underlying48 rfl pcursor_size) rfl ?_
       exact ⟨by rw [HXC.out, HAT.out, HP1.out, HP2.out]; rfl, by rw [HFIN.out, ← HOS.out]; exact SF.out.tail.tail.tail.tail⟩
      ·have d1 : decide ((at_ : Int) + x.width < (cols : Int)) = false := decide_eq_false hend
       have HP1 := Lib.hid (show ((prCol cols at_ x : Nat) : Int) = (cols : Int) - 1 by unfold prCol; rw [if_neg (by have := HXN.out; omega)]; omega)
       have HP2 := Lib.hid (show prPend cols at_ x auto = auto by unfold prPend; rw [if_neg (by have := HXN.out; omega)])
       clear hend
       go_upto_region 26 with (fail)
       refine wp_region_stage (w0 := w0) (os := os2) (by kernel_rfl) (by kernel_rfl) (by kernel_rfl) [(1, 7, [], fun vs => .box b12 48 #[.int .i64 ↑i, .int .i64 (↑cols - 1), .bool auto])] [[], [3], [], [], [], [], [], [1], []] [.box b18 71 (cv x), .box b12 48 #[.int .i64 0, .int .i64 0, .bool false], .box b9 54 (pv q), .box b7 48 #[.int .i64 ↑i, .int .i64 ↑j, .bool pend]] (fun opn u => match opn with | 0 => u = pt b7 0 | 1 => u = .int .i64 ↑i | 2 => u = pt p 0 | 3 => u = .int .i64 ↑cols | 4 => u = .int .i64 (↑cols - 1) | 5 => u = .bool auto | 6 => u = .agg #[.int .i64 ↑i, .int .i64 (↑cols - 1), .bool auto] | 7 => True | 8 => u = .int .i64 0 | _ => True) (fun vs => [.box b18 71 (cv x), .box b12 48 #[.int .i64 ↑i, .int .i64 (↑cols - 1), .bool auto], .box b9 54 (pv q), .box b7 48 #[.int .i64 ↑i, .int .i64 ↑j, .bool pend]]) (by kernel_rfl) (fun vs => by rfl) S20.out ?_ ?_
       ·apply sc
        ·intro a w' vs σ hS hl hs hk
         have f7 : a.tmps[7]?.getD undef = .pointer (some ⟨b7, 0, none⟩) := sof hk
         exact rp (pt b7 0) (by simp [execOp, Act.eval, f7, go_sem]) hl hs hS
        apply sc
        ·intro a w' vs σ hS hl hs hk
         have f111 : a.tmps[111]?.getD undef = .pointer (some ⟨b7, 0, none⟩) := sf hk 0
         have hx := (hS.box (sg (hs 3 (by decide)))).cell
         exact rp (.int .i64 ↑i) (by simp [execOp, Act.eval, f111, go_sem, hx]) hl hs hS
        apply sc
        ·intro a w' vs σ hS hl hs hk
         have f0 : a.tmps[0]?.getD undef = .pointer (some ⟨p, 0, none⟩) := sof hk
         exact rp (pt p 0) (by simp [execOp, Act.eval, f0, go_sem]) hl hs hS
        apply sc
        ·intro a w' vs σ hS hl hs hk
         have e113 : a.tmps.getD 113 undef = .pointer (some ⟨p, 0, none⟩) := sv hk 2
         exact ro_call (f := 18) (wanted_none rfl) rfl (by simp only [List.map_toArray, List.map_cons, List.map_nil, Act.eval, e113] <;> rfl) (fun _ _ => by kernel_rfl) ((Cols_any hS (k := k + 4) (by simpa using tg4b hl HK2.out)).mono fun e w2 ⟨h1, h2⟩ => ⟨_, h1, sp_same (by kernel_rfl) hl hs h2 rfl, trivial⟩)
        apply sc
        ·intro a w' vs σ hS hl hs hk
         have f114 : a.tmps[114]?.getD undef = .int .i64 ↑cols := sf hk 3
         exact rp (.int .i64 (↑cols - 1)) (by simp [execOp, Act.eval, f114, go_sem, HWC.out]) hl hs hS
        apply sc
        ·intro a w' vs σ hS hl hs hk
         have f4 : a.tmps[4]?.getD undef = .bool auto := sof hk
         exact rp (.bool auto) (by simp [execOp, Act.eval, f4, go_sem]) hl hs hS
        apply sc
        ·intro a w' vs σ hS hl hs hk
         have f112 : a.tmps[112]?.getD undef = .int .i64 ↑i := sf hk 1
         have f115 : a.tmps[115]?.getD undef = .int .i64 (↑cols - 1) := sf hk 4
         have f116 : a.tmps[116]?.getD undef = .bool auto := sf hk 5
         exact rp (.agg #[.int .i64 ↑i, .int .i64 (↑cols - 1), .bool auto]) (by simp [execOp, Act.eval, f112, f115, f116, go_sem]) hl hs hS
        apply sc
        ·intro a w' vs σ hS hl hs hk
         have f12 : a.tmps[12]?.getD undef = .pointer (some ⟨b12, 0, none⟩) := sof hk
         have f117 : a.tmps[117]?.getD undef = .agg #[.int .i64 ↑i, .int .i64 (↑cols - 1), .bool auto] := sf hk 6
         have h1 : σ[1]? = some (.box b12 48 #[.int .i64 0, .int .i64 0, .bool false]) := hs 1 (by decide)
         obtain ⟨hx, hf, hz⟩ := (hS.box (sg h1)).facts
         exact rstep_store (w2 := ((w'.setCell ⟨b12, 0, none⟩ (.int .i64 ↑i)).setCell ⟨b12, 1, none⟩ (.int .i64 (↑cols - 1))).setCell ⟨b12, 2, none⟩ (.bool auto)) (wanted_none rfl) rfl (by simp [execOp, Act.eval, f12, f117, hx, hf, hz, go_sem]) (sp_set 1 (.box b12 48 #[.int .i64 ↑i, .int .i64 (↑cols - 1), .bool auto]) (by kernel_rfl) (by simp) (by decide) hl hs (by rfl) (hS.setCur 1 (sg h1)) trivial) trivial
        apply sc
        ·intro a w' vs σ hS hl hs hk
         exact rp (.int .i64 0) (by simp [execOp, Act.eval, go_sem]) hl hs hS
        exact SSteps.nil
       ·intro vs w' hS hv
        have q0 : vs 0 = _ := hv 0 (by decide)
        have q1 : vs 1 = _ := hv 1 (by decide)
        have q2 : vs 2 = _ := hv 2 (by decide)
        have q3 : vs 3 = _ := hv 3 (by decide)
        have q4 : vs 4 = _ := hv 4 (by decide)
        have q5 : vs 5 = _ := hv 5 (by decide)
        have q6 : vs 6 = _ := hv 6 (by decide)
        have q8 : vs 8 = _ := hv 8 (by decide)
        have S2 := Lib.hid hS
        simp only [putL, Act.put, Nat.zero_add, Nat.reduceAdd, List.setIfInBounds_toArray, List.set_cons_succ, List.set_cons_zero, q0, q1, q2, q3, q4, q5, q6, q8]
        clear hS hv q0 q1 q2 q3 q4 q5 q6 q8
        have SF := S2
        clear S2
        go_wp2_with fail
        refine bodyPost_ret (results_ct Tryd.results38 _ _ b12 _ _ rfl (SF.out.box (k := 1) rfl) Tryd.underlying48 rfl pcursor_size) rfl ?_
        exact ⟨by rw [HXC.out, HAT.out, HP1.out, HP2.out]; rfl, by rw [HFIN.out, ← HOS.out]; exact SF.out.tail.tail.tail.tail⟩
   | false =>
    have HXB := Lib.hid (show x = x0 by rw [← HXC.out]; unfold prCell; rw [if_neg (of_decide_eq_false hbw.symm)])
    clear hbw
    have S12 := Lib.hid (show Objs w0 _ (.box b18 71 (cv x) :: .box b12 48 #[.int .i64 0, .int .i64 0, .bool false] :: .box b9 54 (pv q) :: .box b7 48 #[.int .i64 ↑i, .int .i64 ↑j, .bool pend] :: os) from by rw [HXB.out]; exact S10.out)
    clear S10
    go_upto_region 15 with (fail)
    refine wp_region_stage (w0 := w0) (os := (.box b12 48 #[.int .i64 0, .int .i64 0, .bool false] :: .box b9 54 (pv q) :: .box b7 48 #[.int .i64 ↑i, .int .i64 ↑j, .bool pend] :: os)) (by kernel_rfl) (by kernel_rfl) (by kernel_rfl) [] [[], [], [], [], [0], [], [], []] [.box b18 71 (cv x)] (fun opn u => match opn with | 0 => u = .int .i64 ↑j | 1 => u = pt p 0 | 2 => u = .int .i64 ↑cols | 3 => u = pt b18 4 | 4 => u = .int .i64 x.width | 5 => u = .int .i64 (↑cols - x.width) | 6 => u = .int .i64 ↑at_ | 7 => u = .int .i64 ↑at_ | _ => True) (fun vs => [.box b18 71 (cv x)]) (by kernel_rfl) (fun vs => by rfl) S12.out ?_ ?_
    ·apply sc
     ·intro a w' vs σ hS hl hs hk
      have e19 : a.tmps.getD 19 undef = .int .i64 ↑j := (sk_later hk 7 (by kernel_rfl) rfl rfl).trans rfl
      have f19 := gd e19
      exact rp (.int .i64 ↑j) (by simp [execOp, Act.eval, e19, f19, go_sem]) hl hs hS
     apply sc
     ·intro a w' vs σ hS hl hs hk
      have f0 : a.tmps[0]?.getD undef = .pointer (some ⟨p, 0, none⟩) := sof hk
      exact rp (pt p 0) (by simp [execOp, Act.eval, f0, go_sem]) hl hs hS
     apply sc
     ·intro a w' vs σ hS hl hs hk
      have e69 : a.tmps.getD 69 undef = .pointer (some ⟨p, 0, none⟩) := sv hk 1
      exact ro_call (f := 18) (wanted_none rfl) rfl (by simp only [List.map_toArray, List.map_cons, List.map_nil, Act.eval, e69] <;> rfl) (fun _ _ => by kernel_rfl) ((Cols_any hS (k := k + 4) (by simpa using tg4 hl HK.out)).mono fun e w2 ⟨h1, h2⟩ => ⟨_, h1, sp_same (by kernel_rfl) hl hs h2 rfl, trivial⟩)
     apply sc
     ·intro a w' vs σ hS hl hs hk
      have f18 : a.tmps[18]?.getD undef = .pointer (some ⟨b18, 0, none⟩) := sof hk
      exact rp (pt b18 4) (by simp [execOp, Act.eval, f18, go_sem]) hl hs hS
     apply sc
     ·intro a w' vs σ hS hl hs hk
      have f71 : a.tmps[71]?.getD undef = .pointer (some ⟨b18, 4, none⟩) := sf hk 3
      have hx := (hS.box (sg (hs 0 (by decide)))).cell
      exact rp (.int .i64 x.width) (by simp [execOp, Act.eval, f71, go_sem, hx]) hl hs hS
     apply sc
     ·intro a w' vs σ hS hl hs hk
      have f70 : a.tmps[70]?.getD undef = .int .i64 ↑cols := sf hk 2
      have f72 : a.tmps[72]?.getD undef = .int .i64 x.width := sf hk 4
      exact rp (.int .i64 (↑cols - x.width)) (by simp [execOp, Act.eval, f70, f72, go_sem, HWS.out]) hl hs hS
     apply sc
     ·intro a w' vs σ hS hl hs hk
      have f68 : a.tmps[68]?.getD undef = .int .i64 ↑j := sf hk 0
      have f73 : a.tmps[73]?.getD undef = .int .i64 (↑cols - x.width) := sf hk 5
      have hmin := HMIN.out
      exact rp (.int .i64 ↑at_) (by simp [execOp, Act.eval, f68, f73, go_sem, hmin]) hl hs hS
     apply sc
     ·intro a w' vs σ hS hl hs hk
      have f74 : a.tmps[74]?.getD undef = .int .i64 ↑at_ := sf hk 6
      exact rp (.int .i64 ↑at_) (by simp [execOp, Act.eval, f74, go_sem]) hl hs hS
     exact SSteps.nil
    ·intro vs w' hS hv
     have q0 : vs 0 = _ := hv 0 (by decide)
     have q1 : vs 1 = _ := hv 1 (by decide)
     have q2 : vs 2 = _ := hv 2 (by decide)
     have q3 : vs 3 = _ := hv 3 (by decide)
     have q4 : vs 4 = _ := hv 4 (by decide)
     have q5 : vs 5 = _ := hv 5 (by decide)
     have q6 : vs 6 = _ := hv 6 (by decide)
     have q7 : vs 7 = _ := hv 7 (by decide)
     have S2 := Lib.hid hS
     simp only [putL, Act.put, Nat.zero_add, Nat.reduceAdd, List.setIfInBounds_toArray, List.set_cons_succ, List.set_cons_zero, q0, q1, q2, q3, q4, q5, q6, q7]
     clear hS hv q0 q1 q2 q3 q4 q5 q6 q7
     have S13 := S2
     clear S2 S12
     cases ins with
     | false =>
      have HFIN := Lib.hid (show printL i j cols x0 false L = rowMod i (putC at_ x) L by unfold printL; rw [HXC.out, HAT.out]; rfl)
      have hp9 := (S13.out.box (k := 2) rfl).penAt
      have hp9z := (S13.out.box (k := 2) rfl).lt
      obtain ⟨hx7, hf7, hz7⟩ := (S13.out.box (k := 3) rfl).facts
      have hc18 := (S13.out.box (k := 0) rfl).cellAt
      have hw18 := (S13.out.box (k := 0) rfl).width4
      go_wp2_with fail
      clear hp9 hp9z hx7 hf7 hz7 hc18 hw18
      refine (PutG (i := i) (j := at_) x HT.out S13.out (k := k + 4) HK.out hcm HR.out hi HXO.out HXZ.out HFT.out).mono ?_
      rintro e w7 ⟨rfl, hS⟩
      have S14 := Lib.hid hS
      clear hS S13
      obtain ⟨os2, hos2⟩ : ∃ os2, os2 = os.set k (.grid p 58 cols (rowMod i (putC at_ x) L)) := ⟨_, rfl⟩
      have HK2 := Lib.hid (show os2[k]? = some (.grid p 58 cols (rowMod i (putC at_ x) L)) by rw [hos2]; exact set_at HK.out)
      have HOS := Lib.hid hos2
      have S19 := Lib.hid (show Objs w0 _ (.box b18 71 (cv x) :: .box b12 48 #[.int .i64 0, .int .i64 0, .bool false] :: .box b9 54 (pv q) :: .box b7 48 #[.int .i64 ↑i, .int .i64 ↑j, .bool pend] :: os2) from by rw [hos2]; exact S14.out)
      clear hos2 S14
      have hw18 := (S19.out.box (k := 0) rfl).width4
      have hwa := HWA.out
      go_wp2_with fail
      clear hw18 hwa
      refine (Cols_any S19.out (k := k + 4) HK2.out).mono ?_
      rintro e w8 ⟨rfl, hS⟩
      have S20 := Lib.hid hS
      clear hS S19
      by_cases hend : (at_ : Int) + x.width < cols
      ·have d1 : decide ((at_ : Int) + x.width < (cols : Int)) = true := decide_eq_true hend
       have HP1 := Lib.hid (show ((prCol cols at_ x : Nat) : Int) = (at_ : Int) + x.width by unfold prCol; rw [if_pos (by have := HXN.out; omega)]; have := HXN.out; omega)
       have HP2 := Lib.hid (show prPend cols at_ x auto = false by unfold prPend; rw [if_pos (by have := HXN.out; omega)])
       obtain ⟨hx7, hf7, hz7⟩ := (S20.out.box (k := 3) rfl).facts
       obtain ⟨hx12, hf12, hz12⟩ := (S20.out.box (k := 1) rfl).facts
       have SF := Lib.hid (S20.out.setCur 1 (r := ↑i) (c := ↑at_ + x.width) (b := false) rfl)
       clear hend
       go_wp2_with fail
       refine bodyPost_ret (results_ct Tryd.results38 _ _ b12 _ _ rfl (SF.out.box (k := 1) rfl) Tryd.underlying48 rfl pcursor_size) rfl ?_
       exact ⟨by rw [HXC.out, HAT.out, HP1.out, HP2.out]; rfl, by rw [HFIN.out, ← HOS.out]; exact SF.out.tail.tail.tail.tail⟩
      ·have d1 : decide ((at_ : Int) + x.width < (cols : Int)) = false := decide_eq_false hend
       have HP1 := Lib.hid (show ((prCol cols at_ x : Nat) : Int) = (cols : Int) - 1 by unfold prCol; rw [if_neg (by have := HXN.out; omega)]; omega)
       have HP2 := Lib.hid (show prPend cols at_ x auto = auto by unfold prPend; rw [if_neg (by have := HXN.out; omega)])
       clear hend
       go_upto_region 26 with (fail)
       refine wp_region_stage (w0 := w0) (os := os2) (by kernel_rfl) (by kernel_rfl) (by kernel_rfl) [(1, 7, [], fun vs => .box b12 48 #[.int .i64 ↑i, .int .i64 (↑cols - 1), .bool auto])] [[], [3], [], [], [], [], [], [1], []] [.box b18 71 (cv x), .box b12 48 #[.int .i64 0, .int .i64 0, .bool false], .box b9 54 (pv q), .box b7 48 #[.int .i64 ↑i, .int .i64 ↑j, .bool pend]] (fun opn u => match opn with | 0 => u = pt b7 0 | 1 => u = .int .i64 ↑i | 2 => u = pt p 0 | 3 => u = .int .i64 ↑cols | 4 => u = .int .i64 (↑cols - 1) | 5 => u = .bool auto | 6 => u = .agg #[.int .i64 ↑i, .int .i64 (↑cols - 1), .bool auto] | 7 => True | 8 => u = .int .i64 0 | _ => True) (fun vs => [.box b18 71 (cv x), .box b12 48 #[.int .i64 ↑i, .int .i64 (↑cols - 1), .bool auto], .box b9 54 (pv q), .box b7 48 #[.int .i64 ↑i, .int .i64 ↑j, .bool pend]]) (by kernel_rfl) (fun vs => by rfl) S20.out ?_ ?_
       ·apply sc
        ·intro a w' vs σ hS hl hs hk
         have f7 : a.tmps[7]?.getD undef = .pointer (some ⟨b7, 0, none⟩) := sof hk
         exact rp (pt b7 0) (by simp [execOp, Act.eval, f7, go_sem]) hl hs hS
        apply sc
        ·intro a w' vs σ hS hl hs hk
         have f111 : a.tmps[111]?.getD undef = .pointer (some ⟨b7, 0, none⟩) := sf hk 0
         have hx := (hS.box (sg (hs 3 (by decide)))).cell
         exact rp (.int .i64 ↑i) (by simp [execOp, Act.eval, f111, go_sem, hx]) hl hs hS
        apply sc
        ·intro a w' vs σ hS hl hs hk
         have f0 : a.tmps[0]?.getD undef = .pointer (some ⟨p, 0, none⟩) := sof hk
         exact rp (pt p 0) (by simp [execOp, Act.eval, f0, go_sem]) hl hs hS
        apply sc
        ·intro a w' vs σ hS hl hs hk
         have e113 : a.tmps.getD 113 undef = .pointer (some ⟨p, 0, none⟩) := sv hk 2
         exact ro_call (f := 18) (wanted_none rfl) rfl (by simp only [List.map_toArray, List.map_cons, List.map_nil, Act.eval, e113] <;> rfl) (fun _ _ => by kernel_rfl) ((Cols_any hS (k := k + 4) (by simpa using tg4b hl HK2.out)).mono fun e w2 ⟨h1, h2⟩ => ⟨_, h1, sp_same (by kernel_rfl) hl hs h2 rfl, trivial⟩)
        apply sc
        ·intro a w' vs σ hS hl hs hk
         have f114 : a.tmps[114]?.getD undef = .int .i64 ↑cols := sf hk 3
         exact rp (.int .i64 (↑cols - 1)) (by simp [execOp, Act.eval, f114, go_sem, HWC.out]) hl hs hS
        apply sc
        ·intro a w' vs σ hS hl hs hk
         have f4 : a.tmps[4]?.getD undef = .bool auto := sof hk
         exact rp (.bool auto) (by simp [execOp, Act.eval, f4, go_sem]) hl hs hS
        apply sc
        ·intro a w' vs σ hS hl hs hk
         have f112 : a.tmps[112]?.getD undef = .int .i64 ↑i := sf hk 1
         have f115 : a.tmps[115]?.getD undef = .int .i64 (↑cols - 1) := sf hk 4
         have f116 : a.tmps[116]?.getD undef = .bool auto := sf hk 5
         exact rp (.agg #[.int .i64 ↑i, .int .i64 (↑cols - 1), .bool auto]) (by simp [execOp, Act.eval, f112, f115, f116, go_sem]) hl hs hS
        apply sc
        ·intro a w' vs σ hS hl hs hk
         have f12 : a.tmps[12]?.getD undef = .pointer (some ⟨b12, 0, none⟩) := sof hk
         have f117 : a.tmps[117]?.getD undef = .agg #[.int .i64 ↑i, .int .i64 (↑cols - 1), .bool auto] := sf hk 6
         have h1 : σ[1]? = some (.box b12 48 #[.int .i64 0, .int .i64 0, .bool false]) := hs 1 (by decide)
         obtain ⟨hx, hf, hz⟩ := (hS.box (sg h1)).facts
         exact rstep_store (w2 := ((w'.setCell ⟨b12, 0, none⟩ (.int .i64 ↑i)).setCell ⟨b12, 1, none⟩ (.int .i64 (↑cols - 1))).setCell ⟨b12, 2, none⟩ (.bool auto)) (wanted_none rfl) rfl (by simp [execOp, Act.eval, f12, f117, hx, hf, hz, go_sem]) (sp_set 1 (.box b12 48 #[.int .i64 ↑i, .int .i64 (↑cols - 1), .bool auto]) (by kernel_rfl) (by simp) (by decide) hl hs (by rfl) (hS.setCur 1 (sg h1)) trivial) trivial
        apply sc
        ·intro a w' vs σ hS hl hs hk
         exact rp (.int .i64 0) (by simp [execOp, Act.eval, go_sem]) hl hs hS
        exact SSteps.nil
       ·intro vs w' hS hv
        have q0 : vs 0 = _ := hv 0 (by decide)
        have q1 : vs 1 = _ := hv 1 (by decide)
        have q2 : vs 2 = _ := hv 2 (by decide)
        have q3 : vs 3 = _ := hv 3 (by decide)
        have q4 : vs 4 = _ := hv 4 (by decide)
        have q5 : vs 5 = _ := hv 5 (by decide)
        have q6 : vs 6 = _ := hv 6 (by decide)
        have q8 : vs 8 = _ := hv 8 (by decide)
        have S2 := Lib.hid hS
        simp only [putL, Act.put, Nat.zero_add, Nat.reduceAdd, List.setIfInBounds_toArray, List.set_cons_succ, List.set_cons_zero, q0, q1, q2, q3, q4, q5, q6, q8]
        clear hS hv q0 q1 q2 q3 q4 q5 q6 q8
        have SF := S2
        clear S2
        go_wp2_with fail
        refine bodyPost_ret (results_ct Tryd.results38 _ _ b12 _ _ rfl (SF.out.box (k := 1) rfl) Tryd.underlying48 rfl pcursor_size) rfl ?_
        exact ⟨by rw [HXC.out, HAT.out, HP1.out, HP2.out]; rfl, by rw [HFIN.out, ← HOS.out]; exact SF.out.tail.tail.tail.tail⟩
     | true =>
      have HFIN := Lib.hid (show printL i j cols x0 true L = rowMod i (putC at_ x) (rowMod i (shiftN at_ cols x.width q) L) by
       unfold printL; rw [HXC.out, HAT.out, rowMod_is, rowMod_is, rowMod_is, lnMod_lnMod]; unfold prRow; rw [HXP.out]; rfl)
      have hp9 := (S13.out.box (k := 2) rfl).penAt
      have hp9z := (S13.out.box (k := 2) rfl).lt
      obtain ⟨hx7, hf7, hz7⟩ := (S13.out.box (k := 3) rfl).facts
      have hc18 := (S13.out.box (k := 0) rfl).cellAt
      have hw18 := (S13.out.box (k := 0) rfl).width4
      go_wp2_with fail
      clear hp9 hp9z hx7 hf7 hz7 hc18 hw18
      refine (ShiftG (i := i) (j := at_) x.width q HT.out S13.out (k := k + 4) HK.out hcm HR.out hi HQ.out hat (by have := HXN.out; omega)).mono ?_
      rintro e w6 ⟨rfl, hS⟩
      obtain ⟨L1, hL1⟩ : ∃ L1, L1 = rowMod i (shiftN at_ cols x.width q) L := ⟨_, rfl⟩
      have HR1 := Lib.hid (show Rect cols L1 by rw [hL1]; exact HR.out.rowMod i (fun cs h => shiftN_length h hat))
      have hi1 : i < L1.length := by rw [hL1, rowMod_length]; exact hi
      rw [← hL1] at hS HFIN
      obtain ⟨os1, hos1⟩ : ∃ os1, os1 = os.set k (.grid p 58 cols L1) := ⟨_, rfl⟩
      have HK1 := Lib.hid (show os1[k]? = some (.grid p 58 cols L1) by rw [hos1]; exact set_at HK.out)
      have HOS1 := Lib.hid (show ∀ o, os1.set k o = os.set k o from fun o => by rw [hos1, List.set_set])
      have S14 := Lib.hid (show Objs w0 w6 (.box b18 71 (cv x) :: .box b12 48 #[.int .i64 0, .int .i64 0, .bool false] :: .box b9 54 (pv q) :: .box b7 48 #[.int .i64 ↑i, .int .i64 ↑j, .bool pend] :: os1) from by rw [hos1]; exact hS)
      clear hS S13 hL1 hos1
      have hp9 := (S14.out.box (k := 2) rfl).penAt
      have hp9z := (S14.out.box (k := 2) rfl).lt
      obtain ⟨hx7, hf7, hz7⟩ := (S14.out.box (k := 3) rfl).facts
      have hc18 := (S14.out.box (k := 0) rfl).cellAt
      have hw18 := (S14.out.box (k := 0) rfl).width4
      go_wp2_with fail
      clear hp9 hp9z hx7 hf7 hz7 hc18 hw18
      refine (PutG (i := i) (j := at_) x HT.out S14.out (k := k + 4) HK1.out hcm HR1.out hi1 HXO.out HXZ.out HFT.out).mono ?_
      rintro e w7 ⟨rfl, hS⟩
      have S15 := Lib.hid (show Objs w0 w7 (.box b18 71 (cv x) :: .box b12 48 #[.int .i64 0, .int .i64 0, .bool false] :: .box b9 54 (pv q) :: .box b7 48 #[.int .i64 ↑i, .int .i64 ↑j, .bool pend] :: os.set k (.grid p 58 cols (rowMod i (putC at_ x) L1))) from by rw [← HOS1.out]; exact hS)
      clear hS S14
      obtain ⟨os2, hos2⟩ : ∃ os2, os2 = os.set k (.grid p 58 cols (rowMod i (putC at_ x) L1)) := ⟨_, rfl⟩
      have HK2 := Lib.hid (show os2[k]? = some (.grid p 58 cols (rowMod i (putC at_ x) L1)) by rw [hos2]; exact set_at HK.out)
      have HOS := Lib.hid hos2
      have S19 := Lib.hid (show Objs w0 _ (.box b18 71 (cv x) :: .box b12 48 #[.int .i64 0, .int .i64 0, .bool false] :: .box b9 54 (pv q) :: .box b7 48 #[.int .i64 ↑i, .int .i64 ↑j, .bool pend] :: os2) from by rw [hos2]; exact S15.out)
      clear hos2 S15
      have hw18 := (S19.out.box (k := 0) rfl).width4
      have hwa := HWA.out
      go_wp2_with fail
      clear hw18 hwa
      refine (Cols_any S19.out (k := k + 4) HK2.out).mono ?_
      rintro e w8 ⟨rfl, hS⟩
      have S20 := Lib.hid hS
      clear hS S19
      by_cases hend : (at_ : Int) + x.width < cols
      ·have d1 : decide ((at_ : Int) + x.width < (cols : Int)) = true := decide_eq_true hend
       have HP1 := Lib.hid (show ((prCol cols at_ x : Nat) : Int) = (at_ : Int) + x.width by unfold prCol; rw [if_pos (by have := HXN.out; omega)]; have := HXN.out; omega)
       have HP2 := Lib.hid (show prPend cols at_ x auto = false by unfold prPend; rw [if_pos (by have := HXN.out; omega)])
       obtain ⟨hx7, hf7, hz7⟩ := (S20.out.box (k := 3) rfl).facts
       obtain ⟨hx12, hf12, hz12⟩ := (S20.out.box (k := 1) rfl).facts
       have SF := Lib.hid (S20.out.setCur 1 (r := ↑i) (c := ↑at_ + x.width) (b := false) rfl)
       clear hend
       go_wp2_with fail
       refine bodyPost_ret (results_ct Tryd.results38 _ _ b12 _ _ rfl (SF.out.box (k := 1) rfl) Tryd.underlying48 rfl pcursor_size) rfl ?_
       exact ⟨by rw [HXC.out, HAT.out, HP1.out, HP2.out]; rfl, by rw [HFIN.out, ← HOS.out]; exact SF.out.tail.tail.tail.tail⟩
      ·have d1 : decide ((at_ : Int) + x.width < (cols : Int)) = false := decide_eq_false hend
       have HP1 := Lib.hid (show ((prCol cols at_ x : Nat) : Int) = (cols : Int) - 1 by unfold prCol; rw [if_neg (by have := HXN.out; omega)]; omega)
       have HP2 := Lib.hid (show prPend cols at_ x auto = auto by unfold prPend; rw [if_neg (by have := HXN.out; omega)])
       clear hend
       go_upto_region 26 with (fail)
       refine wp_region_stage (w0 := w0) (os := os2) (by kernel_rfl) (by kernel_rfl) (by kernel_rfl) [(1, 7, [], fun vs => .box b12 48 #[.int .i64 ↑i, .int .i64 (↑cols - 1), .bool auto])] [[], [3], [], [], [], [], [], [1], []] [.box b18 71 (cv x), .box b12 48 #[.int .i64 0, .int .i64 0, .bool false], .box b9 54 (pv q), .box b7 48 #[.int .i64 ↑i, .int .i64 ↑j, .bool pend]] (fun opn u => match opn with | 0 => u = pt b7 0 | 1 => u = .int .i64 ↑i | 2 => u = pt p 0 | 3 => u = .int .i64 ↑cols | 4 => u = .int .i64 (↑cols - 1) | 5 => u = .bool auto | 6 => u = .agg #[.int .i64 ↑i, .int .i64 (↑cols - 1), .bool auto] | 7 => True | 8 => u = .int .i64 0 | _ => True) (fun vs => [.box b18 71 (cv x), .box b12 48 #[.int .i64 ↑i, .int .i64 (↑cols - 1), .bool auto], .box b9 54 (pv q), .box b7 48 #[.int .i64 ↑i, .int .i64 ↑j, .bool pend]]) (by kernel_rfl) (fun vs => by rfl) S20.out ?_ ?_
       ·apply sc
        ·intro a w' vs σ hS hl hs hk
         have f7 : a.tmps[7]?.getD undef = .pointer (some ⟨b7, 0, none⟩) := sof hk
         exact rp (pt b7 0) (by simp [execOp, Act.eval, f7, go_sem]) hl hs hS
        apply sc
        ·intro a w' vs σ hS hl hs hk
         have f111 : a.tmps[111]?.getD undef = .pointer (some ⟨b7, 0, none⟩) := sf hk 0
         have hx := (hS.box (sg (hs 3 (by decide)))).cell
         exact rp (.int .i64 ↑i) (by simp [execOp, Act.eval, f111, go_sem, hx]) hl hs hS
        apply sc
        ·intro a w' vs σ hS hl hs hk
         have f0 : a.tmps[0]?.getD undef = .pointer (some ⟨p, 0, none⟩) := sof hk
         exact rp (pt p 0) (by simp [execOp, Act.eval, f0, go_sem]) hl hs hS
        apply sc
        ·intro a w' vs σ hS hl hs hk
         have e113 : a.tmps.getD 113 undef = .pointer (some ⟨p, 0, none⟩) := sv hk 2
         exact ro_call (f := 18) (wanted_none rfl) rfl (by simp only [List.map_toArray, List.map_cons, List.map_nil, Act.eval, e113] <;> rfl) (fun _ _ => by kernel_rfl) ((Cols_any hS (k := k + 4) (by simpa using tg4b hl HK2.out)).mono fun e w2 ⟨h1, h2⟩ => ⟨_, h1, sp_same (by kernel_rfl) hl hs h2 rfl, trivial⟩)
        apply sc
        ·intro a w' vs σ hS hl hs hk
         have f114 : a.tmps[114]?.getD undef = .int .i64 ↑cols := sf hk 3
         exact rp (.int .i64 (↑cols - 1)) (by simp [execOp, Act.eval, f114, go_sem, HWC.out]) hl hs hS
        apply sc
        ·intro a w' vs σ hS hl hs hk
         have f4 : a.tmps[4]?.getD undef = .bool auto := sof hk
         exact rp (.bool auto) (by simp [execOp, Act.eval, f4, go_sem]) hl hs hS
        apply sc
        ·intro a w' vs σ hS hl hs hk
         have f112 : a.tmps[112]?.getD undef = .int .i64 ↑i := sf hk 1
         have f115 : a.tmps[115]?.getD undef = .int .i64 (↑cols - 1) := sf hk 4
         have f116 : a.tmps[116]?.getD undef = .bool auto := sf hk 5
         exact rp (.agg #[.int .i64 ↑i, .int .i64 (↑cols - 1), .bool auto]) (by simp [execOp, Act.eval, f112, f115, f116, go_sem]) hl hs hS
        apply sc
        ·intro a w' vs σ hS hl hs hk
         have f12 : a.tmps[12]?.getD undef = .pointer (some ⟨b12, 0, none⟩) := sof hk
         have f117 : a.tmps[117]?.getD undef = .agg #[.int .i64 ↑i, .int .i64 (↑cols - 1), .bool auto] := sf hk 6
         have h1 : σ[1]? = some (.box b12 48 #[.int .i64 0, .int .i64 0, .bool false]) := hs 1 (by decide)
         obtain ⟨hx, hf, hz⟩ := (hS.box (sg h1)).facts
         exact rstep_store (w2 := ((w'.setCell ⟨b12, 0, none⟩ (.int .i64 ↑i)).setCell ⟨b12, 1, none⟩ (.int .i64 (↑cols - 1))).setCell ⟨b12, 2, none⟩ (.bool auto)) (wanted_none rfl) rfl (by simp [execOp, Act.eval, f12, f117, hx, hf, hz, go_sem]) (sp_set 1 (.box b12 48 #[.int .i64 ↑i, .int .i64 (↑cols - 1), .bool auto]) (by kernel_rfl) (by simp) (by decide) hl hs (by rfl) (hS.setCur 1 (sg h1)) trivial) trivial
        apply sc
        ·intro a w' vs σ hS hl hs hk
         exact rp (.int .i64 0) (by simp [execOp, Act.eval, go_sem]) hl hs hS
        exact SSteps.nil
       ·intro vs w' hS hv
        have q0 : vs 0 = _ := hv 0 (by decide)
        have q1 : vs 1 = _ := hv 1 (by decide)
        have q2 : vs 2 = _ := hv 2 (by decide)
        have q3 : vs 3 = _ := hv 3 (by decide)
        have q4 : vs 4 = _ := hv 4 (by decide)
        have q5 : vs 5 = _ := hv 5 (by decide)
        have q6 : vs 6 = _ := hv 6 (by decide)
        have q8 : vs 8 = _ := hv 8 (by decide)
        have S2 := Lib.hid hS
        simp only [putL, Act.put, Nat.zero_add, Nat.reduceAdd, List.setIfInBounds_toArray, List.set_cons_succ, List.set_cons_zero, q0, q1, q2, q3, q4, q5, q6, q8]
        clear hS hv q0 q1 q2 q3 q4 q5 q6 q8
        have SF := S2
        clear S2
        go_wp2_with fail
        refine bodyPost_ret (results_ct Tryd.results38 _ _ b12 _ _ rfl (SF.out.box (k := 1) rfl) Tryd.underlying48 rfl pcursor_size) rfl ?_
        exact ⟨by rw [HXC.out, HAT.out, HP1.out, HP2.out]; rfl, by rw [HFIN.out, ← HOS.out]; exact SF.out.tail.tail.tail.tail⟩
end
end Go.Proofs.YtppijfjigcoifaaDoor

namespace Go.Proofs.YtppijfjigcoifaaDoor
open Go.RowKit

theorem tg3 {σ os : List Ob} {a b c o : Ob} {k : Nat} (hl : σ.length = [a, b, c].length) (hk : os[k]? = some o) : (σ ++ os)[k + 3]? = some o := by
 match σ, hl with
 | [x, y, z], _ => exact hk
theorem or3 {P Q R G : Prop} (h : P ∨ Q ∨ R) (a3 : P → G) (b3 : Q → G) (c3 : R → G) : G := h.elim a3 (fun h => h.elim b3 c3)
section
variable {w0 w : World} {os : List Ob} {k p cols : Nat} {L : List Ln}
set_option maxRecDepth 100000 in
set_option maxHeartbeats 16000000 in
theorem r16Print_yes {i j : Nat} (pend auto ins : Bool) (x0 : Cell) (hS : Objs w0 w os) (hk : os[k]? = some (.grid p 33 cols L)) (hc : 0 < cols) (hcm : cols ≤ 1000) (hR : Rect cols L) (hi : i < L.length) (hj : j < cols) (hw12 : x0.width = 1 ∨ x0.width = 2) (hok : x0.ok = true) (hqk : x0.pen.ok = true) :
  Calls Tryd.prog 67 #[.pointer (some ⟨p, 0, none⟩), .agg #[.int .i64 ↑i, .int .i64 ↑j, .bool pend], .agg (cv x0), .bool auto, .bool ins] w fun e w' => e = .returned (.agg #[.int .i64 ↑i, .int .i64 ↑(prCol cols (prAt cols j (prCell cols x0)) (prCell cols x0)), .bool (prPend cols (prAt cols j (prCell cols x0)) (prCell cols x0) auto)]) ∧ Objs w0 w' (os.set k (.grid p 33 cols (printL i j cols x0 ins L))) := by
 have S0 := Lib.hid hS
 have HK := Lib.hid hk
 have HR := Lib.hid hR
 have HC := Lib.hid hc
 obtain ⟨q, hq⟩ : ∃ q, x0.pen = q := ⟨_, rfl⟩
 rw [hq] at hqk
 have HQ := Lib.hid hq
 have HQK := Lib.hid hqk
 obtain ⟨x, hx⟩ : ∃ x, prCell cols x0 = x := ⟨_, rfl⟩
 obtain ⟨hxw, hxc⟩ := prCell_width (x := x0) hc hw12
 rw [hx] at hxw hxc
 have hxn : x.width = (x.width.toNat : Int) ∧ 1 ≤ x.width.toNat ∧ x.width.toNat ≤ 2 := by rcases hxw with h | h <;> rw [h] <;> decide
 have HXN := Lib.hid hxn
 have HXC := Lib.hid hx
 have HXW := Lib.hid hxw
 have HXL := Lib.hid hxc
 have HXP := Lib.hid (show x.pen = q by rw [← hx]; unfold prCell; split <;> first | rw [hq]; rfl | exact hq)
 have HXO := Lib.hid (show x.ok = true by rw [← hx]; unfold prCell; split; (rw [ok_blank, hq]; exact hqk); exact hok)
 have HXZ := Lib.hid (show ¬ x.width = 0 by omega)
 obtain ⟨hfit, hat, -, -⟩ := prAt_fits (x := x) (j := j) hj hxw hxc
 obtain ⟨at_, hat_⟩ : ∃ at_, prAt cols j x = at_ := ⟨_, rfl⟩
 rw [hat_] at hfit hat
 have HAT := Lib.hid hat_
 have HFT := Lib.hid hfit
 have HWA := Lib.hid (show IntKind.i64.wrap ((at_ : Int) + x.width) = (at_ : Int) + x.width from IntWalk.i64_in _ (by omega))
 have HWC := Lib.hid (show IntKind.i64.wrap ((cols : Int) - 1) = (cols : Int) - 1 from IntWalk.i64_in _ (by omega))
 clear hS hk hR hq hqk hx hxw hxc hxn hat_ hfit hok
 go_enter Tryd.func67, Tryd.ntmps67
 go_upto_region 1 with (fail)
 refine at_objsC (S0.out.alloc3 (c1 := #[.int .i64 ↑i, .int .i64 ↑j, .bool pend]) (t1 := 48) (c2 := cv x0) (t2 := 71) (c3 := #[.int .i64 0, .int .i64 0, .bool false]) (t3 := 48)) (fun W hW => ?_)
 generalize w.heap.size + 1 + 1 = b10 at hW ⊢
 generalize w.heap.size + 1 = b7 at hW ⊢
 generalize w.heap.size = b6 at hW ⊢
 have S1 := Lib.hid hW
 clear hW S0
 obtain ⟨hx6, hf6, hz6⟩ := (S1.out.box (k := 2) rfl).facts
 have hw7 := (S1.out.box (k := 1) rfl).width4
 have hp7 := penAt_of_cell (S1.out.box (k := 1) rfl).cellAt
 rw [HQ.out] at hp7
 obtain ⟨-, hf7, hz7⟩ := (S1.out.box (k := 1) rfl).facts
 obtain ⟨Ax, cx, hBx, -, -⟩ := S1.out.gridRd (k := k + 3) HK.out
 obtain ⟨hxx, hfx, hzx⟩ := hBx.facts
 clear hBx
 refine or3 (show (cols = 1 ∧ x0.width = 2) ∨ (cols = 1 ∧ ¬ x0.width = 2) ∨ ¬ cols = 1 by omega) (fun h1 => ?k1) (fun h1 => ?k2) (fun h1 => ?k3)
 case' k1 =>
  have HX := Lib.hid (show x = blank q by rw [← HXC.out]; unfold prCell; rw [if_pos (by omega), HQ.out])
  have hb1 : ((cols : Int) == 1) = true := beq_yes (by omega)
  have hb2 := beq_yes h1.2
  clear h1
  go_wp2_with fail
  clear hb2 hx6 hf6 hz6 hw7 hp7 hf7 hz7 hxx hfx hzx hb1
  refine (r14Blank_any q _).mono ?_
  rintro e w5 ⟨rfl, hb⟩
  have hS := S1.out.bel hb
  have hst := store_cv_row w5 b7 (cv x0) (blank q) (hS.box (k := 1) rfl) (cv_size _)
  have S3 := Lib.hid (show Objs w0 (w5.setRow b7 (cv (blank q))) (.box b10 48 #[.int .i64 0, .int .i64 0, .bool false] :: .box b7 71 (cv x) :: .box b6 48 #[.int .i64 ↑i, .int .i64 ↑j, .bool pend] :: os) from by rw [HX.out]; exact hS.rowBox 1 (ds := cv (blank q)) rfl)
  clear hb hS S1 HX
  go_upto_region 3 with (fail)
  clear hst
 case' k2 =>
  have HX := Lib.hid (show x = x0 by rw [← HXC.out]; unfold prCell; rw [if_neg (by rcases hw12 with h | h <;> omega)])
  have hb1 : ((cols : Int) == 1) = true := beq_yes (by omega)
  have hb2 := beq_no h1.2
  clear h1
  have S3 := Lib.hid (show Objs w0 W (.box b10 48 #[.int .i64 0, .int .i64 0, .bool false] :: .box b7 71 (cv x) :: .box b6 48 #[.int .i64 ↑i, .int .i64 ↑j, .bool pend] :: os) from by rw [HX.out]; exact S1.out)
  clear HX S1
  go_upto_region 3 with (fail)
  clear hb2 hx6 hf6 hz6 hw7 hp7 hf7 hz7 hxx hfx hzx hb1
 case' k3 =>
  have HX := Lib.hid (show x = x0 by rw [← HXC.out]; unfold prCell; rw [if_neg (by have := HC.out; rcases hw12 with h | h <;> omega)])
  have hb1 : ((cols : Int) == 1) = false := beq_no (by omega)
  clear h1
  have S3 := Lib.hid (show Objs w0 W (.box b10 48 #[.int .i64 0, .int .i64 0, .bool false] :: .box b7 71 (cv x) :: .box b6 48 #[.int .i64 ↑i, .int .i64 ↑j, .bool pend] :: os) from by rw [HX.out]; exact S1.out)
  clear HX S1
  go_upto_region 3 with (fail)
  clear hx6 hf6 hz6 hw7 hp7 hf7 hz7 hxx hfx hzx hb1
 all_goals
  obtain ⟨hx6, hf6, hz6⟩ := (S3.out.box (k := 2) rfl).facts
  have hw7 := (S3.out.box (k := 1) rfl).width4
  obtain ⟨-, hf7, hz7⟩ := (S3.out.box (k := 1) rfl).facts
  obtain ⟨Ax, cx, hBx, -, -⟩ := S3.out.gridRd (k := k + 3) HK.out
  obtain ⟨hxx, hfx, hzx⟩ := hBx.facts
  clear hBx
  apply or3 (show (x.width = 2 ∧ (j : Int) = (cols : Int) - 1) ∨ (x.width = 2 ∧ ¬ (j : Int) = (cols : Int) - 1) ∨ ¬ x.width = 2 by omega)
  case' a3 =>
   intro h2
   have hb2 := beq_yes h2.1
   have hwc : IntKind.i64.wrap ((cols : Int) - 1) = (j : Int) := by rw [HWC.out, h2.2]
   have hwj : IntKind.i64.wrap ((j : Int) - 1) = (at_ : Int) := by
    rw [IntWalk.i64_in _ (by omega), ← HAT.out]
    unfold prAt
    have h4 := HXN.out
    have h5 := HXL.out
    omega
   clear h2
   go_upto_region 6 with (fail)
   clear hb2 hwc hwj
  case' b3 =>
   intro h2
   have hb2 := beq_yes h2.1
   have hb3 : ((j : Int) == (cols : Int) - 1) = false := beq_no h2.2
   have hwc := HWC.out
   obtain rfl : at_ = j := by
    rw [← HAT.out]
    exact (prAt_fits (x := x) (j := j) hj HXW.out HXL.out).2.2.2 (by omega)
   clear h2
   go_upto_region 6 with (fail)
   clear hb2 hb3 hwc
  case' c3 =>
   intro h2
   have hb2 := beq_no h2
   obtain rfl : at_ = j := by
    rw [← HAT.out]
    exact (prAt_fits (x := x) (j := j) hj HXW.out HXL.out).2.2.2 (by omega)
   clear h2
   go_upto_region 6 with (fail)
   clear hb2
  all_goals
   clear hx6 hf6 hz6 hw7 hf7 hz7 hxx hfx hzx
   obtain ⟨cj, S5⟩ : ∃ cj : Int, Hid (Objs w0 _ (.box b10 48 #[.int .i64 0, .int .i64 0, .bool false] :: .box b7 71 (cv x) :: .box b6 48 #[.int .i64 ↑i, .int .i64 cj, .bool pend] :: os)) := ⟨_, S3⟩
   clear S3
   as_aux_lemma =>
    obtain ⟨hx6, hf6, hz6⟩ := (S5.out.box (k := 2) rfl).facts
    have hw7 := (S5.out.box (k := 1) rfl).width4
    have hc7 := (S5.out.box (k := 1) rfl).cellAt
    have hp7 := penAt_of_cell hc7
    rw [HXP.out] at hp7
    obtain ⟨-, hf7, hz7⟩ := (S5.out.box (k := 1) rfl).facts
    cases ins
    case' false =>
     have HFIN := Lib.hid (show printL i _ cols x0 false L = rowMod i (putC at_ x) L by unfold printL; rw [HXC.out, HAT.out]; rfl)
     go_wp2_with fail
     clear hx6 hf6 hz6 hw7 hc7 hp7 hf7 hz7
     refine (r14PutG (i := i) (j := at_) x S5.out (k := k + 3) HK.out hcm HR.out hi HXO.out HXZ.out HFT.out).mono ?_
     rintro e w7 ⟨rfl, hS⟩
     obtain ⟨L2, hL2⟩ : ∃ L2, L2 = rowMod i (putC at_ x) L := ⟨_, rfl⟩
     rw [← hL2] at hS HFIN
     have S7 := Lib.hid hS
     clear hS S5 hL2
    case' true =>
     have HFIN := Lib.hid (show printL i _ cols x0 true L = rowMod i (putC at_ x) (rowMod i (shiftN at_ cols x.width q) L) by
      unfold printL; rw [HXC.out, HAT.out, rowMod_is, rowMod_is, rowMod_is, lnMod_lnMod]; unfold prRow; rw [HXP.out]; rfl)
     go_wp2_with fail
     clear hx6 hf6 hz6 hw7 hc7 hp7 hf7 hz7
     refine (r14ShiftG (i := i) (j := at_) x.width q S5.out (k := k + 3) HK.out hcm HR.out hi hat (by have := HXN.out; omega)).mono ?_
     rintro e w6 ⟨rfl, hS⟩
     obtain ⟨L1, hL1⟩ : ∃ L1, L1 = rowMod i (shiftN at_ cols x.width q) L := ⟨_, rfl⟩
     have HR1 := Lib.hid (show Rect cols L1 by rw [hL1]; exact HR.out.rowMod i (fun cs h => shiftN_length h hat))
     have hi1 : i < L1.length := by rw [hL1, rowMod_length]; exact hi
     rw [← hL1] at hS HFIN
     obtain ⟨os1, hos1⟩ : ∃ os1, os1 = os.set k (.grid p 33 cols L1) := ⟨_, rfl⟩
     have HK1 := Lib.hid (show os1[k]? = some (.grid p 33 cols L1) by rw [hos1]; exact set_at HK.out)
     have HOS1 := Lib.hid (show ∀ o, os1.set k o = os.set k o from fun o => by rw [hos1, List.set_set])
     have S6 := Lib.hid (show Objs w0 w6 (.box b10 48 #[.int .i64 0, .int .i64 0, .bool false] :: .box b7 71 (cv x) :: .box b6 48 #[.int .i64 ↑i, .int .i64 cj, .bool pend] :: os1) from by rw [hos1]; exact hS)
     clear hS S5 hL1 hos1
     obtain ⟨hx6, hf6, hz6⟩ := (S6.out.box (k := 2) rfl).facts
     have hw7 := (S6.out.box (k := 1) rfl).width4
     have hc7 := (S6.out.box (k := 1) rfl).cellAt
     have hp7 := penAt_of_cell hc7
     rw [HXP.out] at hp7
     obtain ⟨-, hf7, hz7⟩ := (S6.out.box (k := 1) rfl).facts
     go_wp2_with fail
     clear hx6 hf6 hz6 hw7 hc7 hp7 hf7 hz7
     refine (r14PutG (i := i) (j := at_) x S6.out (k := k + 3) HK1.out hcm HR1.out hi1 HXO.out HXZ.out HFT.out).mono ?_
     rintro e w7 ⟨rfl, hS⟩
     obtain ⟨L2, hL2⟩ : ∃ L2, L2 = rowMod i (putC at_ x) L1 := ⟨_, rfl⟩
     rw [← hL2] at hS HFIN
     have S7 := Lib.hid (show Objs w0 w7 (.box b10 48 #[.int .i64 0, .int .i64 0, .bool false] :: .box b7 71 (cv x) :: .box b6 48 #[.int .i64 ↑i, .int .i64 cj, .bool pend] :: os.set k (.grid p 33 cols L2)) from by rw [← HOS1.out]; exact hS)
     clear hS S6 hL2 HK1 HOS1 HR1 hi1
    all_goals
     obtain ⟨os2, hos2⟩ : ∃ os2, os2 = os.set k (.grid p 33 cols L2) := ⟨_, rfl⟩
     have HK2 := Lib.hid (show os2[k]? = some (.grid p 33 cols L2) by rw [hos2]; exact set_at HK.out)
     have HOS := Lib.hid hos2
     have S8 := Lib.hid (show Objs w0 _ (.box b10 48 #[.int .i64 0, .int .i64 0, .bool false] :: .box b7 71 (cv x) :: .box b6 48 #[.int .i64 ↑i, .int .i64 cj, .bool pend] :: os2) from by rw [hos2]; exact S7.out)
     clear hos2 S7
     have hw7 := (S8.out.box (k := 1) rfl).width4
     obtain ⟨-, hf7, hz7⟩ := (S8.out.box (k := 1) rfl).facts
     obtain ⟨Ax, cx, hBx, -, -⟩ := S8.out.gridRd (k := k + 3) HK2.out
     obtain ⟨hxx, hfx, hzx⟩ := hBx.facts
     clear hBx
     have hwa := HWA.out
     by_cases hend : (at_ : Int) + x.width < cols
     ·have d1 : decide ((at_ : Int) + x.width < (cols : Int)) = true := decide_eq_true hend
      have HP1 := Lib.hid (show ((prCol cols at_ x : Nat) : Int) = (at_ : Int) + x.width by unfold prCol; rw [if_pos (by have := HXN.out; omega)]; have := HXN.out; omega)
      have HP2 := Lib.hid (show prPend cols at_ x auto = false by unfold prPend; rw [if_pos (by have := HXN.out; omega)])
      go_upto_region 9 with (fail)
      refine wp_region_below (by kernel_rfl) (by kernel_rfl) ?_
      repeat (go_big_quiet_step (fail))
      refine wpQuiet_nil ?_
      intro w8 hb8
      have S9 := Lib.hid (S8.out.bel hb8)
      clear hb8 S8 hw7 hf7 hz7 hxx hfx hzx hwa
      obtain ⟨hx6, hf6, hz6⟩ := (S9.out.box (k := 2) rfl).facts
      have hw7 := (S9.out.box (k := 1) rfl).width4
      obtain ⟨hx10, hf10, hz10⟩ := (S9.out.box (k := 0) rfl).facts
      have hwa := HWA.out
      have SF := Lib.hid (S9.out.setCur 0 (r := ↑i) (c := ↑at_ + x.width) (b := false) rfl)
      clear hend
      go_wp2_with fail
      refine bodyPost_ret (results_cell1 Tryd.results67 _ _ b10 48 _ _ rfl (SF.out.box (k := 0) rfl) Tryd.underlying48 rfl pcursor_size) rfl ?_
      exact ⟨by rw [HXC.out, HAT.out, HP1.out, HP2.out], by rw [HFIN.out, ← HOS.out]; exact SF.out.tail.tail.tail⟩
     ·have d1 : decide ((at_ : Int) + x.width < (cols : Int)) = false := decide_eq_false hend
      have HP1 := Lib.hid (show ((prCol cols at_ x : Nat) : Int) = (cols : Int) - 1 by unfold prCol; rw [if_neg (by have := HXN.out; omega)]; have := HC.out; omega)
      have HP2 := Lib.hid (show prPend cols at_ x auto = auto by unfold prPend; rw [if_neg (by have := HXN.out; omega)])
      go_upto_region 9 with (fail)
      refine wp_region_below (by kernel_rfl) (by kernel_rfl) ?_
      repeat (go_big_quiet_step (fail))
      refine wpQuiet_nil ?_
      intro w8 hb8
      have S9 := Lib.hid (S8.out.bel hb8)
      clear hb8 S8 hw7 hf7 hz7 hxx hfx hzx hwa
      clear hend
      go_upto_region 11 with (fail)
      refine wp_region_stage (w0 := w0) (os := os2) (by kernel_rfl) (by kernel_rfl) (by kernel_rfl) [(0, 9, [], fun vs => .box b10 48 #[.int .i64 ↑i, .int .i64 (↑cols - 1), .bool auto])] [[], [2], [], [], [], [], [], [], [], [0]] [.box b10 48 #[.int .i64 0, .int .i64 0, .bool false], .box b7 71 (cv x), .box b6 48 #[.int .i64 ↑i, .int .i64 cj, .bool pend]] (fun opn u => match opn with | 0 => u = pt b6 0 | 1 => u = .int .i64 ↑i | 2 => u = pt p 0 | 3 => u = pt p 0 | 4 => u = pt p 0 | 5 => u = .int .i64 ↑cols | 6 => u = .int .i64 (↑cols - 1) | 7 => u = .bool auto | 8 => u = .agg #[.int .i64 ↑i, .int .i64 (↑cols - 1), .bool auto] | 9 => True | _ => True) (fun vs => [.box b10 48 #[.int .i64 ↑i, .int .i64 (↑cols - 1), .bool auto], .box b7 71 (cv x), .box b6 48 #[.int .i64 ↑i, .int .i64 cj, .bool pend]]) (by kernel_rfl) (fun vs => by rfl) S9.out ?_ ?_
      ·apply sc
       ·intro a w' vs σ hS hl hs hk
        have f6 : a.tmps[6]?.getD undef = .pointer (some ⟨b6, 0, none⟩) := sof hk
        exact rp (pt b6 0) (by simp [execOp, Act.eval, f6, go_sem]) hl hs hS
       apply sc
       ·intro a w' vs σ hS hl hs hk
        have f73 : a.tmps[73]?.getD undef = .pointer (some ⟨b6, 0, none⟩) := sf hk 0
        have hx := (hS.box (sg (hs 2 (by decide)))).cell
        exact rp (.int .i64 ↑i) (by simp [execOp, Act.eval, f73, go_sem, hx]) hl hs hS
       apply sc
       ·intro a w' vs σ hS hl hs hk
        have f0 : a.tmps[0]?.getD undef = .pointer (some ⟨p, 0, none⟩) := sof hk
        exact rp (pt p 0) (by simp [execOp, Act.eval, f0, go_sem]) hl hs hS
       apply sc
       ·intro a w' vs σ hS hl hs hk
        have f75 : a.tmps[75]?.getD undef = .pointer (some ⟨p, 0, none⟩) := sf hk 2
        exact rp (pt p 0) (by simp [execOp, Act.eval, f75, go_sem]) hl hs hS
       apply sc
       ·intro a w' vs σ hS hl hs hk
        have f76 : a.tmps[76]?.getD undef = .pointer (some ⟨p, 0, none⟩) := sf hk 3
        exact rp (pt p 0) (by simp [execOp, Act.eval, f76, go_sem]) hl hs hS
       apply sc
       ·intro a w' vs σ hS hl hs hk
        have f77 : a.tmps[77]?.getD undef = .pointer (some ⟨p, 0, none⟩) := sf hk 4
        obtain ⟨Ax, cx, hBx, -, -⟩ := hS.gridRd (k := k + 3) (by simpa using tg3 hl HK2.out)
        have hx := hBx.cell
        exact rp (.int .i64 ↑cols) (by simp [execOp, Act.eval, f77, go_sem, hx]) hl hs hS
       apply sc
       ·intro a w' vs σ hS hl hs hk
        have f78 : a.tmps[78]?.getD undef = .int .i64 ↑cols := sf hk 5
        exact rp (.int .i64 (↑cols - 1)) (by simp [execOp, Act.eval, f78, go_sem, HWC.out]) hl hs hS
       apply sc
       ·intro a w' vs σ hS hl hs hk
        have f3 : a.tmps[3]?.getD undef = .bool auto := sof hk
        exact rp (.bool auto) (by simp [execOp, Act.eval, f3, go_sem]) hl hs hS
       apply sc
       ·intro a w' vs σ hS hl hs hk
        have f74 : a.tmps[74]?.getD undef = .int .i64 ↑i := sf hk 1
        have f79 : a.tmps[79]?.getD undef = .int .i64 (↑cols - 1) := sf hk 6
        have f80 : a.tmps[80]?.getD undef = .bool auto := sf hk 7
        exact rp (.agg #[.int .i64 ↑i, .int .i64 (↑cols - 1), .bool auto]) (by simp [execOp, Act.eval, f74, f79, f80, go_sem]) hl hs hS
       apply sc
       ·intro a w' vs σ hS hl hs hk
        have f10 : a.tmps[10]?.getD undef = .pointer (some ⟨b10, 0, none⟩) := sof hk
        have f81 : a.tmps[81]?.getD undef = .agg #[.int .i64 ↑i, .int .i64 (↑cols - 1), .bool auto] := sf hk 8
        have h1 : σ[0]? = some (.box b10 48 #[.int .i64 0, .int .i64 0, .bool false]) := hs 0 (by decide)
        obtain ⟨hx, hf, hz⟩ := (hS.box (sg h1)).facts
        exact rstep_store (w2 := ((w'.setCell ⟨b10, 0, none⟩ (.int .i64 ↑i)).setCell ⟨b10, 1, none⟩ (.int .i64 (↑cols - 1))).setCell ⟨b10, 2, none⟩ (.bool auto)) (wanted_none rfl) rfl (by simp [execOp, Act.eval, f10, f81, hx, hf, hz, go_sem]) (sp_set 0 (.box b10 48 #[.int .i64 ↑i, .int .i64 (↑cols - 1), .bool auto]) (by kernel_rfl) (by simp) (by decide) hl hs (by rfl) (hS.setCur 0 (sg h1)) trivial) trivial
       exact SSteps.nil
      ·intro vs w' hS hv
       have q0 : vs 0 = _ := hv 0 (by decide)
       have q1 : vs 1 = _ := hv 1 (by decide)
       have q2 : vs 2 = _ := hv 2 (by decide)
       have q3 : vs 3 = _ := hv 3 (by decide)
       have q4 : vs 4 = _ := hv 4 (by decide)
       have q5 : vs 5 = _ := hv 5 (by decide)
       have q6 : vs 6 = _ := hv 6 (by decide)
       have q7 : vs 7 = _ := hv 7 (by decide)
       have q8 : vs 8 = _ := hv 8 (by decide)
       have S2 := Lib.hid hS
       simp only [putL, Act.put, Nat.zero_add, Nat.reduceAdd, List.setIfInBounds_toArray, List.set_cons_succ, List.set_cons_zero, q0, q1, q2, q3, q4, q5, q6, q7, q8]
       clear hS hv q0 q1 q2 q3 q4 q5 q6 q7 q8
       have SF := S2
       clear S2 S9
       go_wp2_with fail
       refine bodyPost_ret (results_cell1 Tryd.results67 _ _ b10 48 _ _ rfl (SF.out.box (k := 0) rfl) Tryd.underlying48 rfl pcursor_size) rfl ?_
       exact ⟨by rw [HXC.out, HAT.out, HP1.out, HP2.out], by rw [HFIN.out, ← HOS.out]; exact SF.out.tail.tail.tail⟩
end
end Go.Proofs.YtppijfjigcoifaaDoor

namespace Go.Proofs.YtppijfjigcoifaaDoor
open Go.RowKit

def befN (cs : List Cell) (c : Nat) : Nat := if 1 ≤ c ∧ (cAt cs c).width = 0 then c - 1 else c
def mkB (cs : List Cell) (c : Nat) (r : Int) : Bool := !decide ((cAt cs (befN cs c)).rune = 0) && decide ((markOf (cAt cs (befN cs c)) r).2 = 0)
def mkRow (c : Nat) (r : Int) (cs : List Cell) : List Cell := if mkB cs c r = true then cs.set (befN cs c) (markOf (cAt cs (befN cs c)) r).1 else cs
theorem mkRow_length {c : Nat} {r : Int} {cs : List Cell} : (mkRow c r cs).length = cs.length := by unfold mkRow; split <;> simp
theorem wr_no {c : Cell} (h : c.rune = 0) (w : World) : Calls Tryd.prog 79 #[.agg (cv c)] w fun e w' => e = .returned (.bool false) ∧ Below w.heap.size w w' := by
 have := cellWritten_any c w
 rwa [show (!decide (c.rune = 0)) = false by simp [h]] at this
theorem wr_yes {c : Cell} (h : ¬ c.rune = 0) (w : World) : Calls Tryd.prog 79 #[.agg (cv c)] w fun e w' => e = .returned (.bool true) ∧ Below w.heap.size w w' := by
 have := cellWritten_any c w
 rwa [show (!decide (c.rune = 0)) = true by simp [h]] at this
theorem or2 {P Q G : Prop} (h : P ∨ Q) (a2 : P → G) (b2 : Q → G) : G := h.elim a2 b2
section
variable {cs : List Cell} {c : Nat} {r : Int} {y : Cell}
theorem mark_keeps {x : Cell} (h : markOf x r = (y, 0)) : y.width = x.width ∧ y.pen = x.pen ∧ x.ok = true := by
 unfold markOf at h
 split at h
 ·cases h
 ·next hn =>
  have ho : x.ok = true := by cases hx : x.ok; exact absurd (.inl hx) hn; rfl
  split at h
  ·cases h
  ·split at h
   ·obtain ⟨rfl, -⟩ := Prod.mk.inj h; exact ⟨rfl, rfl, ho⟩
   ·split at h
    ·obtain ⟨rfl, -⟩ := Prod.mk.inj h; exact ⟨rfl, rfl, ho⟩
    ·split at h
     ·obtain ⟨rfl, -⟩ := Prod.mk.inj h; exact ⟨rfl, rfl, ho⟩
     ·cases h
theorem bef_facts (h : RowV cs) (hc : c < cs.length) : befN cs c < cs.length ∧ ¬ (cAt cs (befN cs c)).width = 0 ∧ ((befN cs c : Nat) : Int) + (cAt cs (befN cs c)).width ≤ cs.length := by
 have key : ∀ k, k < cs.length → ¬ (cAt cs k).width = 0 → (k : Int) + (cAt cs k).width ≤ cs.length := fun k hk hw => by
  rcases ok_width (h k hk).ok with e | e | e
  ·exact absurd e hw
  ·rw [e]; omega
  ·have := (h k hk).last e; rw [e]; omega
 unfold befN
 by_cases h1 : 1 ≤ c ∧ (cAt cs c).width = 0
 ·rw [if_pos h1]
  have h2 := (h c hc).zero.1 h1.2
  exact ⟨by omega, by omega, key _ (by omega) (by omega)⟩
 ·rw [if_neg h1]
  have h2 : ¬ (cAt cs c).width = 0 := fun e => by
   have := (h c hc).zero.1 e
   exact h1 ⟨this.1, e⟩
  exact ⟨hc, h2, key c hc h2⟩
theorem bef_zero (h : RowV cs) (hc : c < cs.length) (h0 : (cAt cs c).width = 0) : 1 ≤ c ∧ befN cs c = c - 1 := by
 have := (h c hc).zero.1 h0
 exact ⟨this.1, by unfold befN; rw [if_pos ⟨this.1, h0⟩]⟩
theorem bef_not (h0 : ¬ (cAt cs c).width = 0) : befN cs c = c := by unfold befN; rw [if_neg (fun h => h0 h.2)]
theorem mark_put (h : RowV cs) (hj : c < cs.length) (h0 : ¬ (cAt cs c).width = 0) (hm : markOf (cAt cs c) r = (y, 0)) : putC c y cs = cs.set c y := by
 obtain ⟨h1, h2, h3⟩ := mark_keeps hm
 exact putC_same h hj h0 h1 h2 (fun i hi hz => zero_spacer (h i hi).ok hz)
theorem cAt_get (hc : c < cs.length) : cs[c]? = some (cAt cs c) := by rw [List.getElem?_eq_getElem hc, cAt_eq hc]
end
section
variable {w0 w : World} {os : List Ob} {k p cols : Nat} {L : List Ln}
set_option maxHeartbeats 4000000 in
theorem Mark_no (row col : Int) (pend : Bool) (r : Int) (hS : Objs w0 w os) (hk : os[k]? = some (.grid p 58 cols L)) (hc : 0 < cols) (hcm : cols ≤ 1000) (hL : 0 < L.length) (hin : inG row col pend L.length cols = false) :
  Calls Tryd.prog 40 #[.pointer (some ⟨p, 0, none⟩), .agg #[.int .i64 row, .int .i64 col, .bool pend], .int .i32 r] w fun e w' => e = .returned (.tuple #[.bool false, .int .i64 2]) ∧ Objs w0 w' os := by
 have S0 := Lib.hid hS
 have HK := Lib.hid hk
 clear hS hk
 have HE := Lib.hid (show chkE row col pend L.length cols = 2 by unfold chkE; rw [hin]; rfl)
 clear hin
 go_enter Tryd.func40, Tryd.ntmps40
 go_upto_region 1 with (fail)
 refine at_objsC (S0.out.alloc1 (c1 := #[.int .i64 row, .int .i64 col, .bool pend]) (t1 := 48)) (fun W hW => ?_)
 generalize w.heap.size = b4 at hW ⊢
 have S1 := Lib.hid hW
 clear hW S0
 obtain ⟨hx4, hf4, hz4⟩ := (S1.out.box (k := 0) rfl).facts
 go_wp2_with fail
 clear hx4 hf4 hz4
 have hcon := prcheck_any row col pend S1.out (k := k + 1) HK.out hc hcm hL
 rw [HE.out] at hcon
 refine hcon.mono ?_
 rintro e w1 ⟨rfl, hS⟩
 have S2 := Lib.hid hS
 clear hS hcon S1
 go_wp2_with fail
 go_ret2
 exact ⟨rfl, S2.out.tail⟩
set_option maxHeartbeats 4000000 in
theorem Mark_bad (row col : Int) (pend : Bool) (r : Int) (hT : Tabs w0) (hS : Objs w0 w os) (hk : os[k]? = some (.grid p 58 cols L)) (hc : 0 < cols) (hcm : cols ≤ 1000) (hL : 0 < L.length) (hin : inG row col pend L.length cols = true) (hw : ¬ wOf r = 0) :
  Calls Tryd.prog 40 #[.pointer (some ⟨p, 0, none⟩), .agg #[.int .i64 row, .int .i64 col, .bool pend], .int .i32 r] w fun e w' => e = .returned (.tuple #[.bool false, .int .i64 2]) ∧ Objs w0 w' os := by
 have S0 := Lib.hid hS
 have HK := Lib.hid hk
 clear hS hk
 have HT := Lib.hid hT
 have HE := Lib.hid (show chkE row col pend L.length cols = 0 by unfold chkE; rw [hin]; rfl)
 obtain ⟨n, hn⟩ : ∃ n, wOf r = n := ⟨_, rfl⟩
 have HW := Lib.hid hn
 rw [hn] at hw
 have hbn := bne_yes hw
 clear hin hT hn hw
 go_enter Tryd.func40, Tryd.ntmps40
 go_upto_region 1 with (fail)
 refine at_objsC (S0.out.alloc1 (c1 := #[.int .i64 row, .int .i64 col, .bool pend]) (t1 := 48)) (fun W hW => ?_)
 generalize w.heap.size = b4 at hW ⊢
 have S1 := Lib.hid hW
 clear hW S0
 obtain ⟨hx4, hf4, hz4⟩ := (S1.out.box (k := 0) rfl).facts
 go_wp2_with fail
 clear hx4 hf4 hz4
 have hcon := prcheck_any row col pend S1.out (k := k + 1) HK.out hc hcm hL
 rw [HE.out] at hcon
 refine hcon.mono ?_
 rintro e w1 ⟨rfl, hS⟩
 have S2 := Lib.hid hS
 clear hS hcon S1
 go_wp2_with fail
 refine (width_is HW.out _ (S2.out.tabs HT.out)).mono ?_
 rintro e w2 ⟨rfl, hb⟩
 have S3 := Lib.hid (S2.out.bel hb)
 clear hb S2
 go_wp2_with fail
 go_ret2
 exact ⟨rfl, S3.out.tail⟩
set_option maxHeartbeats 4000000 in
theorem Mark_front (row : Int) (r : Int) (hT : Tabs w0) (hS : Objs w0 w os) (hk : os[k]? = some (.grid p 58 cols L)) (hc : 0 < cols) (hcm : cols ≤ 1000) (hL : 0 < L.length) (hin : inG row 0 false L.length cols = true) (hw : wOf r = 0) :
  Calls Tryd.prog 40 #[.pointer (some ⟨p, 0, none⟩), .agg #[.int .i64 row, .int .i64 0, .bool false], .int .i32 r] w fun e w' => e = .returned (.tuple #[.bool false, .int .i64 0]) ∧ Objs w0 w' os := by
 have S0 := Lib.hid hS
 have HK := Lib.hid hk
 clear hS hk
 have HT := Lib.hid hT
 have HE := Lib.hid (show chkE row 0 false L.length cols = 0 by unfold chkE; rw [hin]; rfl)
 have HW := Lib.hid hw
 clear hin hT hw
 go_enter Tryd.func40, Tryd.ntmps40
 go_upto_region 1 with (fail)
 refine at_objsC (S0.out.alloc1 (c1 := #[.int .i64 row, .int .i64 0, .bool false]) (t1 := 48)) (fun W hW => ?_)
 generalize w.heap.size = b4 at hW ⊢
 have S1 := Lib.hid hW
 clear hW S0
 obtain ⟨hx4, hf4, hz4⟩ := (S1.out.box (k := 0) rfl).facts
 go_wp2_with fail
 clear hx4 hf4 hz4
 have hcon := prcheck_any row 0 false S1.out (k := k + 1) HK.out hc hcm hL
 rw [HE.out] at hcon
 refine hcon.mono ?_
 rintro e w1 ⟨rfl, hS⟩
 have S2 := Lib.hid hS
 clear hS hcon S1
 go_wp2_with fail
 refine (width_is HW.out _ (S2.out.tabs HT.out)).mono ?_
 rintro e w2 ⟨rfl, hb⟩
 have S3 := Lib.hid (S2.out.bel hb)
 clear hb S2
 obtain ⟨hx4, hf4, hz4⟩ := (S3.out.box (k := 0) rfl).facts
 go_wp2_with fail
 go_ret2
 exact ⟨rfl, S3.out.tail⟩
set_option maxRecDepth 100000 in
set_option maxHeartbeats 8000000 in
theorem Mark_at {i c0 : Nat} {l : Ln} (col : Int) (pend : Bool) (r : Int) (hT : Tabs w0) (hS : Objs w0 w os) (hk : os[k]? = some (.grid p 58 cols L)) (hc : 0 < cols) (hcm : cols ≤ 1000) (hL : 0 < L.length) (hR : Rect cols L) (hin : inG i col pend L.length cols = true) (hw : wOf r = 0) (hcol : (pend = true ∧ col = (c0 : Int)) ∨ (pend = false ∧ col = (c0 : Int) + 1)) (hl : L[i]? = some l) (hV : RowV l.1) :
  Calls Tryd.prog 40 #[.pointer (some ⟨p, 0, none⟩), .agg #[.int .i64 ↑i, .int .i64 col, .bool pend], .int .i32 r] w fun e w' => e = .returned (.tuple #[.bool (mkB l.1 c0 r), .int .i64 0]) ∧ Objs w0 w' (os.set k (.grid p 58 cols (rowMod i (mkRow c0 r) L))) := by
 have S0 := Lib.hid hS
 have HK := Lib.hid hk
 clear hS hk
 have HT := Lib.hid hT
 have HR := Lib.hid hR
 have HE := Lib.hid (show chkE i col pend L.length cols = 0 by unfold chkE; rw [hin]; rfl)
 have HW := Lib.hid hw
 have HL := Lib.hid hl
 have hing := ingrid_iff.1 hin
 have hll : l.1.length = cols := hR.at_ hl
 have hj0 : c0 < cols := by rcases hcol with h | h <;> omega
 have hi : i < L.length := by omega
 obtain ⟨c1, hc1⟩ : ∃ c1, befN l.1 c0 = c1 := ⟨_, rfl⟩
 obtain ⟨x0, hx0⟩ : ∃ x0, cAt l.1 c0 = x0 := ⟨_, rfl⟩
 obtain ⟨x1, hx1⟩ : ∃ x1, cAt l.1 c1 = x1 := ⟨_, rfl⟩
 obtain ⟨hj1, hw1, hf1⟩ := bef_facts hV (c := c0) (by omega)
 rw [hc1] at hj1 hw1 hf1
 rw [hx1] at hw1 hf1
 rw [hll] at hj1 hf1
 have HX0 := Lib.hid (show l.1[c0]? = some x0 by rw [← hx0]; exact cAt_get (by omega))
 have HX1 := Lib.hid (show l.1[c1]? = some x1 by rw [← hx1]; exact cAt_get (by omega))
 have HZ := Lib.hid (show x0.width = 0 → c0 = c1 + 1 from fun h => by have := bef_zero hV (c := c0) (by omega) (by rw [hx0]; exact h); omega)
 have HN := Lib.hid (show ¬ x0.width = 0 → c1 = c0 ∧ x1 = x0 by
  intro h
  have h2 := bef_not (cs := l.1) (c := c0) (by rw [hx0]; exact h)
  have e : c1 = c0 := by omega
  exact ⟨e, by rw [← hx1, ← hx0, e]⟩)
 have HP := Lib.hid (show ∀ y, markOf x1 r = (y, 0) → putC c1 y l.1 = l.1.set c1 y from fun y hy => mark_put hV (by omega) (by rw [hx1]; exact hw1) (by rw [hx1]; exact hy))
 have HB := Lib.hid (show mkB l.1 c0 r = (!decide (x1.rune = 0) && decide ((markOf x1 r).2 = 0)) by unfold mkB; rw [hc1, hx1])
 have HM := Lib.hid (show mkRow c0 r l.1 = if mkB l.1 c0 r = true then l.1.set c1 (markOf x1 r).1 else l.1 by unfold mkRow; rw [hc1, hx1])
 have HW1 := Lib.hid hw1
 have HF1 := Lib.hid hf1
 have HOK := Lib.hid (show x1.ok = true by rw [← hx1]; exact (hV c1 (by omega)).ok)
 have hng : decide ((c0 : Int) < 0) = false := decide_eq_false (by omega)
 clear hT hR hin hw hing hc1 hx0 hx1 hw1 hf1 hV hl
 refine or2 hcol (fun h7 => ?q1) (fun h7 => ?q2)
 case' q1 =>
  clear hcol
  obtain ⟨rfl, rfl⟩ := h7
  go_enter Tryd.func40, Tryd.ntmps40
  go_upto_region 1 with (fail)
  refine at_objsC (S0.out.alloc1 (c1 := #[.int .i64 ↑i, .int .i64 ↑c0, .bool true]) (t1 := 48)) (fun W hW => ?_)
  generalize w.heap.size = b4 at hW ⊢
  have S1 := Lib.hid hW
  clear hW S0
  obtain ⟨hx4, hf4, hz4⟩ := (S1.out.box (k := 0) rfl).facts
  go_wp2_with fail
  clear hx4 hf4 hz4
  have hcon := prcheck_any ↑i ↑c0 true S1.out (k := k + 1) HK.out hc hcm hL
  rw [HE.out] at hcon
  refine hcon.mono ?_
  rintro e w1 ⟨rfl, hS⟩
  have S2 := Lib.hid hS
  clear hS hcon S1
  go_wp2_with fail
  refine (width_is HW.out _ (S2.out.tabs HT.out)).mono ?_
  rintro e w2 ⟨rfl, hb⟩
  have S3 := Lib.hid (S2.out.bel hb)
  clear hb S2
  obtain ⟨hx4, hf4, hz4⟩ := (S3.out.box (k := 0) rfl).facts
  go_upto_region 11 with (fail)
  clear hx4 hf4 hz4
 case' q2 =>
  clear hcol
  obtain ⟨rfl, h7⟩ := h7
  have HJ := Lib.hid (show IntKind.i64.wrap (col - 1) = (c0 : Int) by rw [IntWalk.i64_in _ (by omega)]; omega)
  clear h7
  go_enter Tryd.func40, Tryd.ntmps40
  go_upto_region 1 with (fail)
  refine at_objsC (S0.out.alloc1 (c1 := #[.int .i64 ↑i, .int .i64 col, .bool false]) (t1 := 48)) (fun W hW => ?_)
  generalize w.heap.size = b4 at hW ⊢
  have S1 := Lib.hid hW
  clear hW S0
  obtain ⟨hx4, hf4, hz4⟩ := (S1.out.box (k := 0) rfl).facts
  go_wp2_with fail
  clear hx4 hf4 hz4
  have hcon := prcheck_any ↑i col false S1.out (k := k + 1) HK.out hc hcm hL
  rw [HE.out] at hcon
  refine hcon.mono ?_
  rintro e w1 ⟨rfl, hS⟩
  have S2 := Lib.hid hS
  clear hS hcon S1
  go_wp2_with fail
  refine (width_is HW.out _ (S2.out.tabs HT.out)).mono ?_
  rintro e w2 ⟨rfl, hb⟩
  have S3 := Lib.hid (S2.out.bel hb)
  clear hb S2
  obtain ⟨hx4, hf4, hz4⟩ := (S3.out.box (k := 0) rfl).facts
  have hwj := HJ.out
  go_upto_region 11 with (fail)
  clear hwj
  clear hx4 hf4 hz4
 all_goals
  clear hng
  obtain ⟨cj, pd, S4⟩ : ∃ (cj : Int) (pd : Bool), Hid (Objs w0 _ (.box b4 48 #[.int .i64 ↑i, .int .i64 cj, .bool pd] :: os)) := ⟨_, _, S3⟩
  clear S3
  obtain ⟨hx4, hf4, hz4⟩ := (S4.out.box (k := 0) rfl).facts
  go_wp2_with fail
  clear hx4 hf4 hz4
  refine (Cell_yes (i := i) (j := c0) (x := x0) S4.out (k := k + 1) HK.out hc hj0 HL.out HX0.out).mono ?_
  rintro e w5 ⟨rfl, hS⟩
  have S5 := Lib.hid hS
  clear hS S4
  go_upto_region 12 with (fail)
  refine at_objsC (S5.out.alloc1 (c1 := cv x0) (t1 := 71)) (fun W hW => ?_)
  generalize w5.heap.size = b10 at hW ⊢
  have S6 := Lib.hid hW
  clear hW S5
  obtain ⟨hx4, hf4, hz4⟩ := (S6.out.box (k := 1) rfl).facts
  have hw10 := (S6.out.box (k := 0) rfl).width4
  obtain ⟨-, hf10, hz10⟩ := (S6.out.box (k := 0) rfl).facts
  apply or2 (Classical.em (x0.width = 0))
  case' a2 =>
   intro h0
   obtain rfl := HZ.out h0
   have hb0 := beq_yes h0
   have hwj : IntKind.i64.wrap (((c1 + 1 : Nat) : Int) - 1) = (c1 : Int) := by rw [IntWalk.i64_in _ (by omega)]; omega
   clear h0
   go_wp2_with fail
   clear hb0 hwj hx4 hf4 hz4 hw10 hf10 hz10
   refine (Cell_yes (i := i) (j := c1) (x := x1) S6.out (k := k + 2) HK.out hc hj1 HL.out HX1.out).mono ?_
   rintro e w6 ⟨rfl, hS⟩
   have hst := store_cv_row w6 b10 (cv x0) x1 (hS.box (k := 0) rfl) (cv_size _)
   have S7 := Lib.hid (show Objs w0 (w6.setRow b10 (cv x1)) (.box b10 71 (cv x1) :: .box b4 48 #[.int .i64 ↑i, .int .i64 cj, .bool pd] :: os) from hS.rowBox 0 (ds := cv x1) rfl)
   clear hS S6
   go_upto_region 15 with (fail)
   clear hst
  case' b2 =>
   intro h0
   obtain ⟨rfl, rfl⟩ := HN.out h0
   have hb0 := beq_no h0
   clear h0
   go_upto_region 15 with (fail)
   clear hb0 hx4 hf4 hz4 hw10 hf10 hz10
   have S7 := S6
   clear S6
  all_goals
   as_aux_lemma =>
    have hc10 := (S7.out.box (k := 0) rfl).cellAt
    have hz10 := (S7.out.box (k := 0) rfl).lt
    go_wp2_with fail
    clear hc10 hz10
    by_cases hr : x1.rune = 0
    ·have HF := Lib.hid (show mkB l.1 _ r = false by rw [HB.out]; simp [hr])
     refine (wr_no hr _).mono ?_
     rintro e w8 ⟨rfl, hb⟩
     have S8 := Lib.hid (S7.out.bel hb)
     clear hb S7 hr
     go_wp2_with fail
     go_ret2
     exact ⟨by rw [HF.out]; rfl, by rw [rowMod_some HL.out, HM.out, HF.out, if_neg (by simp), show ((l.1, l.2) : Ln) = l from rfl, set_self HL.out, set_self HK.out]; exact S8.out.tail.tail⟩
    ·refine (wr_yes hr _).mono ?_
     rintro e w8 ⟨rfl, hb⟩
     have S8 := Lib.hid (S7.out.bel hb)
     clear hb S7
     obtain ⟨y, er, hm⟩ : ∃ y er, markOf x1 r = (y, er) := ⟨_, _, rfl⟩
     have HMK := Lib.hid hm
     have HB2 := Lib.hid (show mkB l.1 _ r = decide (er = 0) by rw [HB.out, hm]; simp [hr])
     clear hr hm
     have hc10 := (S8.out.box (k := 0) rfl).cellAt
     have hz10 := (S8.out.box (k := 0) rfl).lt
     go_wp2_with fail
     clear hc10 hz10
     have hcon := cellMark_any x1 r _ (S8.out.tabs HT.out)
     unfold MarkEnd at hcon
     rw [HMK.out] at hcon
     refine hcon.mono ?_
     rintro e w9 ⟨rfl, hb⟩
     have S9 := Lib.hid (S8.out.bel hb)
     clear hb S8 hcon
     go_upto_region 20 with (fail)
     refine at_objsC (S9.out.alloc1 (c1 := cv y) (t1 := 71)) (fun W2 hW2 => ?_)
     generalize w9.heap.size = b12 at hW2 ⊢
     have SA := Lib.hid hW2
     clear hW2 S9
     by_cases he : er = 0
     ·subst he
      have HT1 := Lib.hid (show mkB l.1 _ r = true by rw [HB2.out]; rfl)
      obtain ⟨hk1, hk2, -⟩ := mark_keeps HMK.out
      have HYO := Lib.hid (mark_holds HOK.out HMK.out).1
      have HYW := Lib.hid (show ¬ y.width = 0 by rw [hk1]; exact HW1.out)
      have HYF := Lib.hid (show (c1 : Int) + y.width ≤ cols by rw [hk1]; exact HF1.out)
      clear hk1 hk2
      obtain ⟨hx4, hf4, hz4⟩ := (SA.out.box (k := 2) rfl).facts
      have hc12 := (SA.out.box (k := 0) rfl).cellAt
      have hz12 := (SA.out.box (k := 0) rfl).lt
      go_wp2_with fail
      clear hx4 hf4 hz4 hc12 hz12
      refine (PutG (i := i) (j := c1) y HT.out SA.out (k := k + 3) HK.out hcm HR.out hi HYO.out HYW.out HYF.out).mono ?_
      rintro e wA ⟨rfl, hS⟩
      have SB := Lib.hid hS
      clear hS SA
      go_wp2_with fail
      go_ret2
      refine ⟨by rw [HT1.out]; rfl, ?_⟩
      have hfin := SB.out.tail.tail.tail
      rw [rowMod_some HL.out, HP.out y HMK.out] at hfin
      rw [rowMod_some HL.out, HM.out, HT1.out, if_pos rfl, HMK.out]
      exact hfin
     ·have HF := Lib.hid (show mkB l.1 _ r = false by rw [HB2.out]; exact decide_eq_false he)
      have hbe := bne_yes he
      clear he
      go_wp2_with fail
      go_ret2
      exact ⟨by rw [HF.out]; rfl, by rw [rowMod_some HL.out, HM.out, HF.out, if_neg (by simp), show ((l.1, l.2) : Ln) = l from rfl, set_self HL.out, set_self HK.out]; exact SA.out.tail.tail.tail⟩
end
end Go.Proofs.YtppijfjigcoifaaDoor

namespace Go.Proofs.YtppijfjigcoifaaDoor
open Go.RowKit

section
variable {w0 w : World} {os : List Ob} {k p cols : Nat} {L : List Ln}
set_option maxHeartbeats 4000000 in
theorem r16Before_front (row : Int) (hS : Objs w0 w os) (hk : os[k]? = some (.grid p 33 cols L)) :
  Calls Tryd.prog 68 #[.pointer (some ⟨p, 0, none⟩), .agg #[.int .i64 row, .int .i64 0, .bool false]] w fun e w' => e = .returned (.int .i64 (-1)) ∧ Objs w0 w' os := by
 have S0 := Lib.hid hS
 clear hS hk
 go_enter Tryd.func68, Tryd.ntmps68
 go_upto_region 1 with (fail)
 refine at_objsC (S0.out.alloc1 (c1 := #[.int .i64 row, .int .i64 0, .bool false]) (t1 := 48)) (fun W hW => ?_)
 generalize w.heap.size = b4 at hW ⊢
 have S1 := Lib.hid hW
 clear hW S0
 obtain ⟨hx4, hf4, hz4⟩ := (S1.out.box (k := 0) rfl).facts
 go_upto_region 4 with (fail)
 refine wp_region_below (by kernel_rfl) (by kernel_rfl) ?_
 repeat (go_big_quiet_step (fail))
 refine wpQuiet_nil ?_
 intro w2 hb2
 have S2 := Lib.hid (S1.out.bel hb2)
 clear hb2 S1
 go_wp2_with fail
 go_ret
 exact ⟨rfl, S2.out.tail⟩
set_option maxHeartbeats 8000000 in
theorem r16Before_at {i c0 : Nat} {l : Ln} (col : Int) (pend : Bool) (hS : Objs w0 w os) (hk : os[k]? = some (.grid p 33 cols L)) (hR : Rect cols L) (hcm : cols ≤ 1000) (hj0 : c0 < cols) (hcol : (pend = true ∧ col = (c0 : Int)) ∨ (pend = false ∧ col = (c0 : Int) + 1)) (hl : L[i]? = some l) :
  Calls Tryd.prog 68 #[.pointer (some ⟨p, 0, none⟩), .agg #[.int .i64 ↑i, .int .i64 col, .bool pend]] w fun e w' => e = .returned (.int .i64 ↑(befN l.1 c0)) ∧ Objs w0 w' os := by
 have S0 := Lib.hid hS
 have HK := Lib.hid hk
 have HL := Lib.hid hl
 have hll : l.1.length = cols := hR.at_ hl
 have hi : i < L.length := (List.getElem?_eq_some_iff.1 hl).1
 have hj2 : c0 < l.1.length := by omega
 obtain ⟨x0, hx0⟩ : ∃ x0, l.1[c0] = x0 := ⟨_, rfl⟩
 have HX := Lib.hid hx0
 have HB := Lib.hid (show befN l.1 c0 = if 1 ≤ c0 ∧ x0.width = 0 then c0 - 1 else c0 by unfold befN; rw [cAt_eq hj2, hx0])
 have HJ := Lib.hid (show IntKind.i64.wrap ((c0 : Int) + 1 - 1) = (c0 : Int) by rw [IntWalk.i64_in _ (by omega)]; omega)
 have HI := Lib.hid hi
 have HLL := Lib.hid hll
 have HJ2 := Lib.hid hj2
 clear hS hk hR hl hx0 hll hi
 refine or2 hcol (fun h7 => ?q1) (fun h7 => ?q2)
 case' q1 =>
  clear hcol
  obtain ⟨rfl, rfl⟩ := h7
  go_enter Tryd.func68, Tryd.ntmps68
  go_upto_region 1 with (fail)
  refine at_objsC (S0.out.alloc1 (c1 := #[.int .i64 ↑i, .int .i64 ↑c0, .bool true]) (t1 := 48)) (fun W hW => ?_)
  generalize w.heap.size = b4 at hW ⊢
  have S1 := Lib.hid hW
  clear hW S0
  obtain ⟨hx4, hf4, hz4⟩ := (S1.out.box (k := 0) rfl).facts
  go_upto_region 4 with (fail)
  clear hx4 hf4 hz4
 case' q2 =>
  clear hcol
  obtain ⟨rfl, h7⟩ := h7
  have hwj : IntKind.i64.wrap (col - 1) = (c0 : Int) := by rw [h7]; exact HJ.out
  clear h7
  go_enter Tryd.func68, Tryd.ntmps68
  go_upto_region 1 with (fail)
  refine at_objsC (S0.out.alloc1 (c1 := #[.int .i64 ↑i, .int .i64 col, .bool false]) (t1 := 48)) (fun W hW => ?_)
  generalize w.heap.size = b4 at hW ⊢
  have S1 := Lib.hid hW
  clear hW S0
  obtain ⟨hx4, hf4, hz4⟩ := (S1.out.box (k := 0) rfl).facts
  go_upto_region 4 with (fail)
  clear hx4 hf4 hz4 hwj
 all_goals
  obtain ⟨A, c, hB, hm, hr⟩ := S1.out.gridRd (k := k + 1) HK.out
  have hlen : L.length ≤ 9223372036854775807 := by have := hr.1; unfold maxLen at hm; omega
  have hi := HI.out
  have hj2 := HJ2.out
  obtain ⟨hx0, hf0, hz0⟩ := hB.facts
  obtain ⟨b, off, A', c', rfl, hz1, hc1, hc2, hrd⟩ := hr.at_ HL.out
  obtain ⟨b2, off2, rfl, hz2, hrg⟩ := hrd.at_ hj2
  have hce := elem_width hrg hj2
  rw [HX.out] at hce
  obtain ⟨hx6, hf6, hz6⟩ := (S1.out.box (k := 0) rfl).facts
  clear hB hm hr hrd hrg
  apply or3 (show ¬ (1 : Int) ≤ (c0 : Int) ∨ ((1 : Int) ≤ (c0 : Int) ∧ x0.width = 0) ∨ ((1 : Int) ≤ (c0 : Int) ∧ ¬ x0.width = 0) by omega)
  case' a3 =>
   intro h1
   have HR := Lib.hid (show befN l.1 c0 = c0 by rw [HB.out, if_neg (fun h => h1 (by omega))])
   have d1 : decide ((1 : Int) ≤ (c0 : Int)) = false := decide_eq_false h1
   clear h1
  case' b3 =>
   intro h1
   have HR := Lib.hid (show befN l.1 c0 = c0 - 1 by rw [HB.out, if_pos ⟨by omega, h1.2⟩])
   have hwj : IntKind.i64.wrap ((c0 : Int) - 1) = ((c0 - 1 : Nat) : Int) := by rw [IntWalk.i64_in _ (by omega)]; omega
   have d1 : decide ((1 : Int) ≤ (c0 : Int)) = true := decide_eq_true h1.1
   have hb0 := beq_yes h1.2
   clear h1
  case' c3 =>
   intro h1
   have HR := Lib.hid (show befN l.1 c0 = c0 by rw [HB.out, if_neg (fun h => h1.2 h.2)])
   have d1 : decide ((1 : Int) ≤ (c0 : Int)) = true := decide_eq_true h1.1
   have hb0 := beq_no h1.2
   clear h1
  all_goals
   refine wp_region_below (by kernel_rfl) (by kernel_rfl) ?_
   repeat (go_big_quiet_step (fail))
   refine wpQuiet_nil ?_
   intro w2 hb2
   have S2 := Lib.hid (S1.out.bel hb2)
   clear hb2 S1
   go_wp2_with fail
   go_ret
   exact ⟨by rw [HR.out]; rfl, S2.out.tail⟩
end
end Go.Proofs.YtppijfjigcoifaaDoor

namespace Go.Proofs.YtppijfjigcoifaaDoor
open Go.RowKit

section
variable {w0 w : World} {os os2 : List Ob} {gp : Value}
set_option maxHeartbeats 4000000 in
theorem l16prints_true {row col r1 c1 r er : Int} {pend auto ins b1 : Bool} {q : Pen} (hS : Objs w0 w os)
  (hcon : ∀ (bs : List Ob) (W : World), bs.length = 3 → Objs w0 W (bs ++ os) → Calls Tryd.prog 38 #[gp, .agg #[.int .i64 row, .int .i64 col, .bool pend], .int .i32 r, .agg (pv q), .bool auto, .bool ins] W fun e w' => e = .returned (.tuple #[.agg #[.int .i64 r1, .int .i64 c1, .bool b1], .int .i64 er]) ∧ Objs w0 w' (bs ++ os2)) :
  Calls Tryd.prog 27 #[gp, .agg #[.int .i64 row, .int .i64 col, .bool pend], .int .i32 r, .agg (pv q), .bool auto, .bool ins, .agg #[.int .i64 r1, .int .i64 c1, .bool b1], .int .i64 er] w fun e w' => e = .returned (.bool true) ∧ Objs w0 w' os2 := by
 have S0 := Lib.hid hS
 have HC := Lib.hid hcon
 clear hS hcon
 go_enter Tryd.func27, Tryd.ntmps27
 go_upto_region 1 with (fail)
 refine at_objsC (S0.out.alloc3 (c1 := #[.int .i64 row, .int .i64 col, .bool pend]) (t1 := 48) (c2 := pv q) (t2 := 54) (c3 := #[.int .i64 r1, .int .i64 c1, .bool b1]) (t3 := 48)) (fun W hW => ?_)
 generalize w.heap.size + 1 + 1 = b14 at hW ⊢
 generalize w.heap.size + 1 = b11 at hW ⊢
 generalize w.heap.size = b9 at hW ⊢
 have S1 := Lib.hid hW
 clear hW S0
 obtain ⟨hx9, hf9, hz9⟩ := (S1.out.box (k := 2) rfl).facts
 have hp11 := (S1.out.box (k := 1) rfl).penAt
 have hp11z := (S1.out.box (k := 1) rfl).lt
 go_wp2_with fail
 clear hx9 hf9 hz9 hp11 hp11z
 refine (HC.out [_, _, _] _ rfl S1.out).mono ?_
 rintro e w1 ⟨rfl, hS⟩
 have S2 := Lib.hid (show Objs w0 w1 (.box b14 48 #[.int .i64 r1, .int .i64 c1, .bool b1] :: .box b11 54 (pv q) :: .box b9 48 #[.int .i64 row, .int .i64 col, .bool pend] :: os2) from hS)
 clear hS S1
 go_upto_region 2 with (fail)
 refine at_objsC (S2.out.alloc1 (c1 := #[.int .i64 r1, .int .i64 c1, .bool b1]) (t1 := 48)) (fun W2 hW2 => ?_)
 generalize w1.heap.size = b17 at hW2 ⊢
 have S3 := Lib.hid hW2
 clear hW2 S2
 obtain ⟨hx17, hf17, hz17⟩ := (S3.out.box (k := 0) rfl).facts
 obtain ⟨hx14, hf14, hz14⟩ := (S3.out.box (k := 1) rfl).facts
 go_wp2_with fail
 go_ret
 exact ⟨rfl, S3.out.tail.tail.tail.tail⟩
set_option maxHeartbeats 4000000 in
theorem l16wraps_true {row col r er : Int} {pend auto b1 : Bool} (hS : Objs w0 w os)
  (hcon : ∀ (bs : List Ob) (W : World), bs.length = 1 → Objs w0 W (bs ++ os) → Calls Tryd.prog 37 #[gp, .agg #[.int .i64 row, .int .i64 col, .bool pend], .int .i32 r, .bool auto] W fun e w' => e = .returned (.tuple #[.bool b1, .int .i64 er]) ∧ Objs w0 w' (bs ++ os2)) :
  Calls Tryd.prog 28 #[gp, .agg #[.int .i64 row, .int .i64 col, .bool pend], .int .i32 r, .bool auto, .bool b1, .int .i64 er] w fun e w' => e = .returned (.bool true) ∧ Objs w0 w' os2 := by
 have S0 := Lib.hid hS
 have HC := Lib.hid hcon
 clear hS hcon
 go_enter Tryd.func28, Tryd.ntmps28
 go_upto_region 1 with (fail)
 refine at_objsC (S0.out.alloc1 (c1 := #[.int .i64 row, .int .i64 col, .bool pend]) (t1 := 48)) (fun W hW => ?_)
 generalize w.heap.size = b9 at hW ⊢
 have S1 := Lib.hid hW
 clear hW S0
 obtain ⟨hx9, hf9, hz9⟩ := (S1.out.box (k := 0) rfl).facts
 go_wp2_with fail
 clear hx9 hf9 hz9
 refine (HC.out [_] _ rfl S1.out).mono ?_
 rintro e w1 ⟨rfl, hS⟩
 have S2 := Lib.hid (show Objs w0 w1 (.box b9 48 #[.int .i64 row, .int .i64 col, .bool pend] :: os2) from hS)
 clear hS S1
 go_wp2_with fail
 go_ret
 exact ⟨rfl, S2.out.tail⟩
set_option maxHeartbeats 4000000 in
theorem l16marks_true {row col r er : Int} {pend b1 : Bool} (hS : Objs w0 w os)
  (hcon : ∀ (bs : List Ob) (W : World), bs.length = 1 → Objs w0 W (bs ++ os) → Calls Tryd.prog 40 #[gp, .agg #[.int .i64 row, .int .i64 col, .bool pend], .int .i32 r] W fun e w' => e = .returned (.tuple #[.bool b1, .int .i64 er]) ∧ Objs w0 w' (bs ++ os2)) :
  Calls Tryd.prog 29 #[gp, .agg #[.int .i64 row, .int .i64 col, .bool pend], .int .i32 r, .bool b1, .int .i64 er] w fun e w' => e = .returned (.bool true) ∧ Objs w0 w' os2 := by
 have S0 := Lib.hid hS
 have HC := Lib.hid hcon
 clear hS hcon
 go_enter Tryd.func29, Tryd.ntmps29
 go_upto_region 1 with (fail)
 refine at_objsC (S0.out.alloc1 (c1 := #[.int .i64 row, .int .i64 col, .bool pend]) (t1 := 48)) (fun W hW => ?_)
 generalize w.heap.size = b9 at hW ⊢
 have S1 := Lib.hid hW
 clear hW S0
 obtain ⟨hx9, hf9, hz9⟩ := (S1.out.box (k := 0) rfl).facts
 go_wp2_with fail
 clear hx9 hf9 hz9
 refine (HC.out [_] _ rfl S1.out).mono ?_
 rintro e w1 ⟨rfl, hS⟩
 have S2 := Lib.hid (show Objs w0 w1 (.box b9 48 #[.int .i64 row, .int .i64 col, .bool pend] :: os2) from hS)
 clear hS S1
 go_wp2_with fail
 go_ret
 exact ⟨rfl, S2.out.tail⟩
set_option maxHeartbeats 4000000 in
theorem l16valid_any (q : Pen) (hT : Tabs w0) (hS : Objs w0 w os) : Calls Tryd.prog 36 #[.agg (pv q)] w fun e w' => e = .returned (.bool q.ok) ∧ Objs w0 w' os := by
 have S := Lib.hid hS
 have HT := Lib.hid hT
 clear hS hT
 go_enter Tryd.func36, Tryd.ntmps36
 go_wp2_with fail
 refine (pure_call (r14Blank_any _ _) S.out.alloc1).mono ?_
 rintro e w1 ⟨rfl, hS⟩
 have S1 := Lib.hid hS
 clear hS
 go_wp2_with fail
 refine (pure_call (cellValid_any _ _ (S1.out.tabs HT.out)) S1.out).mono ?_
 rw [ok_blank]
 rintro e w2 ⟨rfl, hS⟩
 have S2 := Lib.hid hS
 clear hS
 go_wp2_with fail
 go_ret
 exact ⟨rfl, S2.out.tail⟩
set_option maxHeartbeats 4000000 in
theorem l16at_any (col : Int) (pend : Bool) (hS : Objs w0 w os) : Calls Tryd.prog 64 #[.int .i64 col, .bool pend] w fun e w' => e = .returned (.agg #[.int .i64 0, .int .i64 col, .bool pend]) ∧ Objs w0 w' os := by
 have S0 := Lib.hid hS
 clear hS
 go_enter Tryd.func64, Tryd.ntmps64
 go_wp2_with fail
 have SF := Lib.hid (S0.out.alloc1 (c1 := #[.int .i64 0, .int .i64 col, .bool pend]) (t1 := 48))
 refine bodyPost_ret (results_cell1 Tryd.results64 _ _ w.heap.size 48 _ _ rfl (SF.out.box (k := 0) rfl) Tryd.underlying48 rfl pcursor_size) rfl ?_
 exact ⟨rfl, SF.out.tail⟩
end
end Go.Proofs.YtppijfjigcoifaaDoor

namespace Go.Proofs.YtppijfjigcoifaaDoor
open Go.RowKit

theorem gk {bs os : List Ob} {a k : Nat} {o : Ob} (hb : bs.length = a) (hk : os[k]? = some o) : (bs ++ os)[a + k]? = some o := by
 rw [List.getElem?_append_right (by omega), show a + k - bs.length = k by omega]; exact hk
theorem gset {bs os : List Ob} {a k : Nat} {o : Ob} (hb : bs.length = a) : (bs ++ os).set (a + k) o = bs ++ os.set k o := by
 rw [List.set_append_right _ _ (by omega), show a + k - bs.length = k by omega]
section
variable {w0 w : World} {os : List Ob} {k p cols : Nat} {L : List Ln} {row col : Int} {pend auto ins : Bool} {r : Int} {q : Pen}
theorem prints_no (hS : Objs w0 w os) (hk : os[k]? = some (.grid p 58 cols L)) (hc : 0 < cols) (hcm : cols ≤ 1000) (hL : 0 < L.length) (hin : inG row col pend L.length cols = false) :
  Calls Tryd.prog 27 #[.pointer (some ⟨p, 0, none⟩), .agg #[.int .i64 row, .int .i64 col, .bool pend], .int .i32 r, .agg (pv q), .bool auto, .bool ins, .agg #[.int .i64 0, .int .i64 0, .bool false], .int .i64 2] w fun e w' => e = .returned (.bool true) ∧ Objs w0 w' os :=
 l16prints_true hS fun bs W hb hW => (Print_no row col pend auto ins r q hW (k := 3 + k) (gk hb hk) hc hcm hL hin).mono fun e w' ⟨h1, h2⟩ => ⟨h1, h2⟩
theorem prints_bad (hT : Tabs w0) (hS : Objs w0 w os) (hk : os[k]? = some (.grid p 58 cols L)) (hc : 0 < cols) (hcm : cols ≤ 1000) (hL : 0 < L.length) (hin : inG row col pend L.length cols = true) (hbad : wOf r < 1 ∨ q.ok = false) :
  Calls Tryd.prog 27 #[.pointer (some ⟨p, 0, none⟩), .agg #[.int .i64 row, .int .i64 col, .bool pend], .int .i32 r, .agg (pv q), .bool auto, .bool ins, .agg #[.int .i64 0, .int .i64 0, .bool false], .int .i64 2] w fun e w' => e = .returned (.bool true) ∧ Objs w0 w' os :=
 l16prints_true hS fun bs W hb hW => (Print_bad row col pend auto ins r q hT hW (k := 3 + k) (gk hb hk) hc hcm hL hin hbad).mono fun e w' ⟨h1, h2⟩ => ⟨h1, h2⟩
theorem prints_wrap (hT : Tabs w0) (hS : Objs w0 w os) (hk : os[k]? = some (.grid p 58 cols L)) (hc : 0 < cols) (hcm : cols ≤ 1000) (hL : 0 < L.length) (hin : inG row col pend L.length cols = true) (hw : 1 ≤ wOf r) (hq : q.ok = true) (hwr : wrapB cols col pend auto (wOf r) = true) :
  Calls Tryd.prog 27 #[.pointer (some ⟨p, 0, none⟩), .agg #[.int .i64 row, .int .i64 col, .bool pend], .int .i32 r, .agg (pv q), .bool auto, .bool ins, .agg #[.int .i64 0, .int .i64 0, .bool false], .int .i64 8] w fun e w' => e = .returned (.bool true) ∧ Objs w0 w' os :=
 l16prints_true hS fun bs W hb hW => (Print_wrap row col pend auto ins r q hT hW (k := 3 + k) (gk hb hk) hc hcm hL hin hw hq hwr).mono fun e w' ⟨h1, h2⟩ => ⟨h1, h2⟩
theorem prints_yes {i j : Nat} (hT : Tabs w0) (hS : Objs w0 w os) (hk : os[k]? = some (.grid p 58 cols L)) (hc : 0 < cols) (hcm : cols ≤ 1000) (hL : 0 < L.length) (hR : Rect cols L) (hin : inG i j pend L.length cols = true) (hw : 1 ≤ wOf r) (hq : q.ok = true) (hwr : wrapB cols j pend auto (wOf r) = false) (x0 : Cell) (hx0 : x0 = ⟨r, 0, 0, 0, wOf r, q⟩) :
  Calls Tryd.prog 27 #[.pointer (some ⟨p, 0, none⟩), .agg #[.int .i64 ↑i, .int .i64 ↑j, .bool pend], .int .i32 r, .agg (pv q), .bool auto, .bool ins, .agg #[.int .i64 ↑i, .int .i64 ↑(prCol cols (prAt cols j (prCell cols x0)) (prCell cols x0)), .bool (prPend cols (prAt cols j (prCell cols x0)) (prCell cols x0) auto)], .int .i64 0] w fun e w' => e = .returned (.bool true) ∧ Objs w0 w' (os.set k (.grid p 58 cols (printL i j cols x0 ins L))) :=
 l16prints_true hS fun bs W hb hW => (Print_yes pend auto ins r q hT hW (k := 3 + k) (gk hb hk) hc hcm hL hR hin hw hq hwr x0 hx0).mono fun e w' ⟨h1, h2⟩ => ⟨h1, by rw [gset hb] at h2; exact h2⟩
theorem wraps_no (hS : Objs w0 w os) (hk : os[k]? = some (.grid p 58 cols L)) (hc : 0 < cols) (hcm : cols ≤ 1000) (hL : 0 < L.length) (hin : inG row col pend L.length cols = false) :
  Calls Tryd.prog 28 #[.pointer (some ⟨p, 0, none⟩), .agg #[.int .i64 row, .int .i64 col, .bool pend], .int .i32 r, .bool auto, .bool false, .int .i64 2] w fun e w' => e = .returned (.bool true) ∧ Objs w0 w' os :=
 l16wraps_true hS fun bs W hb hW => prWraps_no row col pend auto r hW (k := 1 + k) (gk hb hk) hc hcm hL hin
theorem wraps_bad (hT : Tabs w0) (hS : Objs w0 w os) (hk : os[k]? = some (.grid p 58 cols L)) (hc : 0 < cols) (hcm : cols ≤ 1000) (hL : 0 < L.length) (hin : inG row col pend L.length cols = true) (hw : wOf r < 1) :
  Calls Tryd.prog 28 #[.pointer (some ⟨p, 0, none⟩), .agg #[.int .i64 row, .int .i64 col, .bool pend], .int .i32 r, .bool auto, .bool false, .int .i64 2] w fun e w' => e = .returned (.bool true) ∧ Objs w0 w' os :=
 l16wraps_true hS fun bs W hb hW => (prWraps_yes row col pend auto r hT hW (k := 1 + k) (gk hb hk) hc hcm hL hin).mono fun e w' ⟨h1, h2⟩ => ⟨by rw [h1, if_pos hw], h2⟩
theorem wraps_yes (hT : Tabs w0) (hS : Objs w0 w os) (hk : os[k]? = some (.grid p 58 cols L)) (hc : 0 < cols) (hcm : cols ≤ 1000) (hL : 0 < L.length) (hin : inG row col pend L.length cols = true) (hw : 1 ≤ wOf r) :
  Calls Tryd.prog 28 #[.pointer (some ⟨p, 0, none⟩), .agg #[.int .i64 row, .int .i64 col, .bool pend], .int .i32 r, .bool auto, .bool (wrapB cols col pend auto (wOf r)), .int .i64 0] w fun e w' => e = .returned (.bool true) ∧ Objs w0 w' os :=
 l16wraps_true hS fun bs W hb hW => (prWraps_yes row col pend auto r hT hW (k := 1 + k) (gk hb hk) hc hcm hL hin).mono fun e w' ⟨h1, h2⟩ => ⟨by rw [h1, if_neg (by omega)], h2⟩
theorem marks_no (hS : Objs w0 w os) (hk : os[k]? = some (.grid p 58 cols L)) (hc : 0 < cols) (hcm : cols ≤ 1000) (hL : 0 < L.length) (hin : inG row col pend L.length cols = false) :
  Calls Tryd.prog 29 #[.pointer (some ⟨p, 0, none⟩), .agg #[.int .i64 row, .int .i64 col, .bool pend], .int .i32 r, .bool false, .int .i64 2] w fun e w' => e = .returned (.bool true) ∧ Objs w0 w' os :=
 l16marks_true hS fun bs W hb hW => Mark_no row col pend r hW (k := 1 + k) (gk hb hk) hc hcm hL hin
theorem marks_bad (hT : Tabs w0) (hS : Objs w0 w os) (hk : os[k]? = some (.grid p 58 cols L)) (hc : 0 < cols) (hcm : cols ≤ 1000) (hL : 0 < L.length) (hin : inG row col pend L.length cols = true) (hw : ¬ wOf r = 0) :
  Calls Tryd.prog 29 #[.pointer (some ⟨p, 0, none⟩), .agg #[.int .i64 row, .int .i64 col, .bool pend], .int .i32 r, .bool false, .int .i64 2] w fun e w' => e = .returned (.bool true) ∧ Objs w0 w' os :=
 l16marks_true hS fun bs W hb hW => Mark_bad row col pend r hT hW (k := 1 + k) (gk hb hk) hc hcm hL hin hw
theorem marks_front (hT : Tabs w0) (hS : Objs w0 w os) (hk : os[k]? = some (.grid p 58 cols L)) (hc : 0 < cols) (hcm : cols ≤ 1000) (hL : 0 < L.length) (hin : inG row 0 false L.length cols = true) (hw : wOf r = 0) :
  Calls Tryd.prog 29 #[.pointer (some ⟨p, 0, none⟩), .agg #[.int .i64 row, .int .i64 0, .bool false], .int .i32 r, .bool false, .int .i64 0] w fun e w' => e = .returned (.bool true) ∧ Objs w0 w' os :=
 l16marks_true hS fun bs W hb hW => Mark_front row r hT hW (k := 1 + k) (gk hb hk) hc hcm hL hin hw
theorem marks_at {i c0 : Nat} {l : Ln} (hT : Tabs w0) (hS : Objs w0 w os) (hk : os[k]? = some (.grid p 58 cols L)) (hc : 0 < cols) (hcm : cols ≤ 1000) (hL : 0 < L.length) (hR : Rect cols L) (hin : inG i col pend L.length cols = true) (hw : wOf r = 0) (hcol : (pend = true ∧ col = (c0 : Int)) ∨ (pend = false ∧ col = (c0 : Int) + 1)) (hl : L[i]? = some l) (hV : RowV l.1) :
  Calls Tryd.prog 29 #[.pointer (some ⟨p, 0, none⟩), .agg #[.int .i64 ↑i, .int .i64 col, .bool pend], .int .i32 r, .bool (mkB l.1 c0 r), .int .i64 0] w fun e w' => e = .returned (.bool true) ∧ Objs w0 w' (os.set k (.grid p 58 cols (rowMod i (mkRow c0 r) L))) :=
 l16marks_true hS fun bs W hb hW => (Mark_at col pend r hT hW (k := 1 + k) (gk hb hk) hc hcm hL hR hin hw hcol hl hV).mono fun e w' ⟨h1, h2⟩ => ⟨h1, by rw [gset hb] at h2; exact h2⟩
end
end Go.Proofs.YtppijfjigcoifaaDoor

namespace Go.Proofs.YtppijfjigcoifaaDoor
open Go.RowKit

structure Act16 where
 what : Int
 n : Int
 r : Int
 q : Pen
 auto : Bool
 ins : Bool
def av16 (a : Act16) : Array Value := #[.int .i64 a.what, .int .i64 a.n, .int .i32 a.r, .int .i64 a.q.fk, .int .u8 a.q.fi, .int .u8 a.q.fr, .int .u8 a.q.fg, .int .u8 a.q.fb, .int .i64 a.q.bk, .int .u8 a.q.bi, .int .u8 a.q.br, .int .u8 a.q.bg, .int .u8 a.q.bb, .int .u8 a.q.fl, .bool a.auto, .bool a.ins]
@[go_sem] theorem av16_size (a : Act16) : (av16 a).size = 16 := by simp [av16]
@[simp high, go_sem high] theorem av16_get0 (a : Act16) : (av16 a)[0]? = some (.int .i64 a.what) := by simp [av16]
@[simp high, go_sem high] theorem av16_get1 (a : Act16) : (av16 a)[1]? = some (.int .i64 a.n) := by simp [av16]
@[simp high, go_sem high] theorem av16_get2 (a : Act16) : (av16 a)[2]? = some (.int .i32 a.r) := by simp [av16]
@[simp high, go_sem high] theorem av16_get14 (a : Act16) : (av16 a)[14]? = some (.bool a.auto) := by simp [av16]
@[simp high, go_sem high] theorem av16_get15 (a : Act16) : (av16 a)[15]? = some (.bool a.ins) := by simp [av16]
theorem av16_pen {w : World} {b o : Nat} {a : Act16} (h : w.rangeAt b o (av16 a).toList) : penAt w b (o + 3) = some a.q := penAt_of fun j v hv => by
 have hj : j < 11 := by have := (List.getElem?_eq_some_iff.1 hv).1; simpa [pv] using this
 have := h (3 + j) v (by rw [← hv, ← List.getElem?_drop]; rw [show ((av16 a).toList.drop 3)[j]? = (((av16 a).toList.drop 3).take 11)[j]? from by rw [List.getElem?_take, if_pos hj]]; rfl)
 rw [show o + 3 + j = o + (3 + j) by omega]; exact this
theorem Blk.act16 {w : World} {g : Nat} {t : TypeId} {a : Act16} (h : Blk w g t (av16 a)) : (∀ i, w.cell? ⟨g, i, none⟩ = (av16 a)[i]?) ∧ (∀ i, w.frozen? ⟨g, i, none⟩ = false) ∧ g < w.heap.size ∧ Proofs.YtppijfjigcoifaaDoor.recAt w g 0 16 = some (av16 a) ∧ Proofs.YtppijfjigcoifaaDoor.penAt w g 3 = some a.q :=
 ⟨h.cell, h.frozen, h.lt, h.recAt 16 (av16_size a), by have := av16_pen h.range; simpa using this⟩
end Go.Proofs.YtppijfjigcoifaaDoor

namespace Go.Proofs.YtppijfjigcoifaaDoor
open Go.RowKit

def Does16 (w0 : World) (p p2 cols : Nat) (L : List Ln) (rest : List Ob) (i j : Nat) (pd : Bool) (L' : List Ln) (e : Ending) (w' : World) : Prop :=
 inG i j pd L.length cols = true ∧ L'.length = L.length ∧ Rect cols L' ∧ AllV L' ∧ e = .returned (.tuple #[.agg #[.int .i64 ↑i, .int .i64 ↑j, .bool pd], .bool true]) ∧ Objs w0 w' (.grid p 58 cols L' :: .grid p2 33 cols L' :: rest)
section
variable {w0 w : World} {rest : List Ob} {p p2 cols : Nat} {L : List Ln} {n r : Int} {q : Pen} {auto ins pend : Bool} {i j : Nat}
set_option maxRecDepth 100000 in
set_option maxHeartbeats 8000000 in
theorem does16_else {what : Int} (hT : Tabs w0) (hS : Objs w0 w (.grid p 58 cols L :: .grid p2 33 cols L :: rest)) (hc : 0 < cols) (hcm : cols ≤ 1000) (hL : 0 < L.length) (hLm : L.length ≤ 1000) (hR : Rect cols L) (hV : AllV L) (hin : inG i j pend L.length cols = true) (h0 : ¬ what = 0) (h1 : ¬ what = 1) (h2 : ¬ what = 2) (h3 : ¬ what = 3) (h4 : ¬ what = 4) :
  Calls Tryd.prog 31 #[.pointer (some ⟨p, 0, none⟩), .pointer (some ⟨p2, 0, none⟩), .agg #[.int .i64 ↑i, .int .i64 ↑j, .bool pend], .agg (av16 ⟨what, n, r, q, auto, ins⟩)] w (Does16 w0 p p2 cols L rest i j pend L) := by
 have S0 := Lib.hid hS
 have HT := Lib.hid hT
 have HIN := Lib.hid hin
 have HR := Lib.hid hR
 have HV := Lib.hid hV
 have hing := ingrid_iff.1 hin
 have hi : i < L.length := by omega
 have hj : j < cols := by omega
 obtain ⟨nw, hnw⟩ : ∃ nw, wOf r = nw := ⟨_, rfl⟩
 have HW := Lib.hid hnw
 clear hS hT hin hR hV hnw
 have d0 := beq_no h0
 have d1 := beq_no h1
 have d2 := beq_no h2
 have d3 := beq_no h3
 have d4 := beq_no h4
 clear h0 h1 h2 h3 h4 hing
 go_enter Tryd.func31, Tryd.ntmps31
 go_upto_region 1 with (fail)
 refine at_objsC (S0.out.alloc3 (c1 := #[.int .i64 ↑i, .int .i64 ↑j, .bool pend]) (t1 := 48) (c2 := av16 ⟨what, n, r, q, auto, ins⟩) (t2 := 56) (c3 := #[.int .i64 0, .int .i64 0, .bool false]) (t3 := 48)) (fun W hW => ?_)
 generalize w.heap.size + 1 + 1 = b8 at hW ⊢
 generalize w.heap.size + 1 = b7 at hW ⊢
 generalize w.heap.size = b6 at hW ⊢
 have S1 := Lib.hid hW
 clear hW S0
 obtain ⟨hx7, hf7, hz7, hr7, hp7⟩ := (S1.out.box (k := 1) rfl).act16
 go_wp2_with fail
 clear hx7 hf7 hz7 hr7 hp7
 refine (width_is HW.out _ (S1.out.tabs HT.out)).mono ?_
 rintro e w1 ⟨rfl, hb⟩
 have S2 := Lib.hid (S1.out.bel hb)
 clear hb S1
 obtain ⟨hx8, hf8, hz8⟩ := (S2.out.box (k := 0) rfl).facts
 obtain ⟨hx7, hf7, hz7, hr7, hp7⟩ := (S2.out.box (k := 1) rfl).act16
 obtain ⟨hx6, hf6, hz6⟩ := (S2.out.box (k := 2) rfl).facts
 have SF := Lib.hid (S2.out.setCur 0 (r := ↑i) (c := ↑j) (b := pend) rfl)
 go_wp2_with fail
 refine bodyPost_ret (results_ct Tryd.results31 _ _ b8 _ _ rfl (SF.out.box (k := 0) rfl) Tryd.underlying48 rfl pcursor_size) rfl ?_
 exact ⟨HIN.out, rfl, HR.out, HV.out, rfl, SF.out.tail.tail.tail⟩
set_option maxRecDepth 100000 in
set_option maxHeartbeats 8000000 in
theorem does16_2y (hT : Tabs w0) (hS : Objs w0 w (.grid p 58 cols L :: .grid p2 33 cols L :: rest)) (hc : 0 < cols) (hcm : cols ≤ 1000) (hL : 0 < L.length) (hLm : L.length ≤ 1000) (hR : Rect cols L) (hV : AllV L) (hin : inG i j pend L.length cols = true) (hn : (i : Int) + 1 < (L.length : Int)) :
  Calls Tryd.prog 31 #[.pointer (some ⟨p, 0, none⟩), .pointer (some ⟨p2, 0, none⟩), .agg #[.int .i64 ↑i, .int .i64 ↑j, .bool pend], .agg (av16 ⟨2, n, r, q, auto, ins⟩)] w (Does16 w0 p p2 cols L rest (i + 1) 0 false L) := by
 have S0 := Lib.hid hS
 have HT := Lib.hid hT
 have HIN := Lib.hid hin
 have HR := Lib.hid hR
 have HV := Lib.hid hV
 have hing := ingrid_iff.1 hin
 have hi : i < L.length := by omega
 have hj : j < cols := by omega
 obtain ⟨nw, hnw⟩ : ∃ nw, wOf r = nw := ⟨_, rfl⟩
 have HW := Lib.hid hnw
 clear hS hT hin hR hV hnw
 have HWI := Lib.hid (show IntKind.i64.wrap ((i : Int) + 1) = (i : Int) + 1 from IntWalk.i64_in _ (by omega))
 have d1 : decide ((i : Int) + 1 < (L.length : Int)) = true := decide_eq_true hn
 have HF := Lib.hid (show inG ((i + 1 : Nat) : Int) ((0 : Nat) : Int) false L.length cols = true from ingrid_iff.2 ⟨by omega, by omega, by simp⟩)
 clear hn hing
 go_enter Tryd.func31, Tryd.ntmps31
 go_upto_region 1 with (fail)
 refine at_objsC (S0.out.alloc3 (c1 := #[.int .i64 ↑i, .int .i64 ↑j, .bool pend]) (t1 := 48) (c2 := av16 ⟨2, n, r, q, auto, ins⟩) (t2 := 56) (c3 := #[.int .i64 0, .int .i64 0, .bool false]) (t3 := 48)) (fun W hW => ?_)
 generalize w.heap.size + 1 + 1 = b8 at hW ⊢
 generalize w.heap.size + 1 = b7 at hW ⊢
 generalize w.heap.size = b6 at hW ⊢
 have S1 := Lib.hid hW
 clear hW S0
 obtain ⟨hx7, hf7, hz7, hr7, hp7⟩ := (S1.out.box (k := 1) rfl).act16
 go_wp2_with fail
 clear hx7 hf7 hz7 hr7 hp7
 refine (width_is HW.out _ (S1.out.tabs HT.out)).mono ?_
 rintro e w1 ⟨rfl, hb⟩
 have S2 := Lib.hid (S1.out.bel hb)
 clear hb S1
 obtain ⟨hx8, hf8, hz8⟩ := (S2.out.box (k := 0) rfl).facts
 obtain ⟨hx7, hf7, hz7, hr7, hp7⟩ := (S2.out.box (k := 1) rfl).act16
 obtain ⟨hx6, hf6, hz6⟩ := (S2.out.box (k := 2) rfl).facts
 obtain ⟨A, c, hB, hm, hr⟩ := S2.out.gridRd (k := 4) rfl
 obtain ⟨hx0, hf0, hz0⟩ := hB.facts
 clear hB hm hr
 have hwi := HWI.out
 go_upto_region 28 with (fail)
 refine wp_region_below (by kernel_rfl) (by kernel_rfl) ?_
 repeat (go_big_quiet_step (fail))
 refine wpQuiet_nil ?_
 intro w3 hb3
 have S3 := Lib.hid (S2.out.bel hb3)
 clear hb3 S2
 clear hx8 hf8 hz8 hx7 hf7 hz7 hr7 hp7 hx6 hf6 hz6
 clear hx0 hf0 hz0
 obtain ⟨hx8, hf8, hz8⟩ := (S3.out.box (k := 0) rfl).facts
 obtain ⟨hx7, hf7, hz7, hr7, hp7⟩ := (S3.out.box (k := 1) rfl).act16
 obtain ⟨hx6, hf6, hz6⟩ := (S3.out.box (k := 2) rfl).facts
 have SF := Lib.hid (S3.out.setCur 0 (r := ↑i + 1) (c := 0) (b := false) rfl)
 go_wp2_with fail
 refine bodyPost_ret (results_ct Tryd.results31 _ _ b8 _ _ rfl (SF.out.box (k := 0) rfl) Tryd.underlying48 rfl pcursor_size) rfl ?_
 exact ⟨HF.out, rfl, HR.out, HV.out, rfl, SF.out.tail.tail.tail⟩
set_option maxRecDepth 100000 in
set_option maxHeartbeats 8000000 in
theorem does16_2n (hT : Tabs w0) (hS : Objs w0 w (.grid p 58 cols L :: .grid p2 33 cols L :: rest)) (hc : 0 < cols) (hcm : cols ≤ 1000) (hL : 0 < L.length) (hLm : L.length ≤ 1000) (hR : Rect cols L) (hV : AllV L) (hin : inG i j pend L.length cols = true) (hn : ¬ (i : Int) + 1 < (L.length : Int)) :
  Calls Tryd.prog 31 #[.pointer (some ⟨p, 0, none⟩), .pointer (some ⟨p2, 0, none⟩), .agg #[.int .i64 ↑i, .int .i64 ↑j, .bool pend], .agg (av16 ⟨2, n, r, q, auto, ins⟩)] w (Does16 w0 p p2 cols L rest i j pend L) := by
 have S0 := Lib.hid hS
 have HT := Lib.hid hT
 have HIN := Lib.hid hin
 have HR := Lib.hid hR
 have HV := Lib.hid hV
 have hing := ingrid_iff.1 hin
 have hi : i < L.length := by omega
 have hj : j < cols := by omega
 obtain ⟨nw, hnw⟩ : ∃ nw, wOf r = nw := ⟨_, rfl⟩
 have HW := Lib.hid hnw
 clear hS hT hin hR hV hnw
 have HWI := Lib.hid (show IntKind.i64.wrap ((i : Int) + 1) = (i : Int) + 1 from IntWalk.i64_in _ (by omega))
 have d1 : decide ((i : Int) + 1 < (L.length : Int)) = false := decide_eq_false hn
 clear hn hing
 go_enter Tryd.func31, Tryd.ntmps31
 go_upto_region 1 with (fail)
 refine at_objsC (S0.out.alloc3 (c1 := #[.int .i64 ↑i, .int .i64 ↑j, .bool pend]) (t1 := 48) (c2 := av16 ⟨2, n, r, q, auto, ins⟩) (t2 := 56) (c3 := #[.int .i64 0, .int .i64 0, .bool false]) (t3 := 48)) (fun W hW => ?_)
 generalize w.heap.size + 1 + 1 = b8 at hW ⊢
 generalize w.heap.size + 1 = b7 at hW ⊢
 generalize w.heap.size = b6 at hW ⊢
 have S1 := Lib.hid hW
 clear hW S0
 obtain ⟨hx7, hf7, hz7, hr7, hp7⟩ := (S1.out.box (k := 1) rfl).act16
 go_wp2_with fail
 clear hx7 hf7 hz7 hr7 hp7
 refine (width_is HW.out _ (S1.out.tabs HT.out)).mono ?_
 rintro e w1 ⟨rfl, hb⟩
 have S2 := Lib.hid (S1.out.bel hb)
 clear hb S1
 obtain ⟨hx8, hf8, hz8⟩ := (S2.out.box (k := 0) rfl).facts
 obtain ⟨hx7, hf7, hz7, hr7, hp7⟩ := (S2.out.box (k := 1) rfl).act16
 obtain ⟨hx6, hf6, hz6⟩ := (S2.out.box (k := 2) rfl).facts
 obtain ⟨A, c, hB, hm, hr⟩ := S2.out.gridRd (k := 4) rfl
 obtain ⟨hx0, hf0, hz0⟩ := hB.facts
 clear hB hm hr
 have hwi := HWI.out
 go_upto_region 28 with (fail)
 refine wp_region_below (by kernel_rfl) (by kernel_rfl) ?_
 repeat (go_big_quiet_step (fail))
 refine wpQuiet_nil ?_
 intro w3 hb3
 have S3 := Lib.hid (S2.out.bel hb3)
 clear hb3 S2
 clear hx8 hf8 hz8 hx7 hf7 hz7 hr7 hp7 hx6 hf6 hz6
 clear hx0 hf0 hz0
 obtain ⟨hx8, hf8, hz8⟩ := (S3.out.box (k := 0) rfl).facts
 obtain ⟨hx7, hf7, hz7, hr7, hp7⟩ := (S3.out.box (k := 1) rfl).act16
 obtain ⟨hx6, hf6, hz6⟩ := (S3.out.box (k := 2) rfl).facts
 have SF := Lib.hid (S3.out.setCur 0 (r := ↑i) (c := ↑j) (b := pend) rfl)
 go_wp2_with fail
 refine bodyPost_ret (results_ct Tryd.results31 _ _ b8 _ _ rfl (SF.out.box (k := 0) rfl) Tryd.underlying48 rfl pcursor_size) rfl ?_
 exact ⟨HIN.out, rfl, HR.out, HV.out, rfl, SF.out.tail.tail.tail⟩
set_option maxRecDepth 100000 in
set_option maxHeartbeats 8000000 in
theorem does16_3y {m : Nat} (hT : Tabs w0) (hS : Objs w0 w (.grid p 58 cols L :: .grid p2 33 cols L :: rest)) (hc : 0 < cols) (hcm : cols ≤ 1000) (hL : 0 < L.length) (hLm : L.length ≤ 1000) (hR : Rect cols L) (hV : AllV L) (hin : inG i j pend L.length cols = true) (hn : (m : Int) < (cols : Int)) :
  Calls Tryd.prog 31 #[.pointer (some ⟨p, 0, none⟩), .pointer (some ⟨p2, 0, none⟩), .agg #[.int .i64 ↑i, .int .i64 ↑j, .bool pend], .agg (av16 ⟨3, ↑m, r, q, auto, ins⟩)] w (Does16 w0 p p2 cols L rest i m false L) := by
 have S0 := Lib.hid hS
 have HT := Lib.hid hT
 have HIN := Lib.hid hin
 have HR := Lib.hid hR
 have HV := Lib.hid hV
 have hing := ingrid_iff.1 hin
 have hi : i < L.length := by omega
 have hj : j < cols := by omega
 obtain ⟨nw, hnw⟩ : ∃ nw, wOf r = nw := ⟨_, rfl⟩
 have HW := Lib.hid hnw
 clear hS hT hin hR hV hnw
 have HF := Lib.hid (show inG i m false L.length cols = true from ingrid_iff.2 ⟨by omega, by omega, by simp⟩)
 have d1 : decide ((0 : Int) ≤ (m : Int)) = true := decide_eq_true (by omega)
 have d2 : decide ((m : Int) < (cols : Int)) = true := decide_eq_true hn
 have d3 : decide (m < cols) = true := decide_eq_true (by omega)
 clear hn hing
 go_enter Tryd.func31, Tryd.ntmps31
 go_upto_region 1 with (fail)
 refine at_objsC (S0.out.alloc3 (c1 := #[.int .i64 ↑i, .int .i64 ↑j, .bool pend]) (t1 := 48) (c2 := av16 ⟨3, ↑m, r, q, auto, ins⟩) (t2 := 56) (c3 := #[.int .i64 0, .int .i64 0, .bool false]) (t3 := 48)) (fun W hW => ?_)
 generalize w.heap.size + 1 + 1 = b8 at hW ⊢
 generalize w.heap.size + 1 = b7 at hW ⊢
 generalize w.heap.size = b6 at hW ⊢
 have S1 := Lib.hid hW
 clear hW S0
 obtain ⟨hx7, hf7, hz7, hr7, hp7⟩ := (S1.out.box (k := 1) rfl).act16
 go_wp2_with fail
 clear hx7 hf7 hz7 hr7 hp7
 refine (width_is HW.out _ (S1.out.tabs HT.out)).mono ?_
 rintro e w1 ⟨rfl, hb⟩
 have S2 := Lib.hid (S1.out.bel hb)
 clear hb S1
 obtain ⟨hx8, hf8, hz8⟩ := (S2.out.box (k := 0) rfl).facts
 obtain ⟨hx7, hf7, hz7, hr7, hp7⟩ := (S2.out.box (k := 1) rfl).act16
 obtain ⟨hx6, hf6, hz6⟩ := (S2.out.box (k := 2) rfl).facts
 obtain ⟨A, c, hB, hm, hr⟩ := S2.out.gridRd (k := 4) rfl
 obtain ⟨hx0, hf0, hz0⟩ := hB.facts
 clear hB hm hr
 go_upto_region 31 with (fail)
 refine wp_region_below (by kernel_rfl) (by kernel_rfl) ?_
 repeat (go_big_quiet_step (fail))
 refine wpQuiet_nil ?_
 intro w3 hb3
 have S3 := Lib.hid (S2.out.bel hb3)
 clear hb3 S2
 clear hx8 hf8 hz8 hx7 hf7 hz7 hr7 hp7 hx6 hf6 hz6
 clear hx0 hf0 hz0
 obtain ⟨hx8, hf8, hz8⟩ := (S3.out.box (k := 0) rfl).facts
 obtain ⟨hx7, hf7, hz7, hr7, hp7⟩ := (S3.out.box (k := 1) rfl).act16
 obtain ⟨hx6, hf6, hz6⟩ := (S3.out.box (k := 2) rfl).facts
 have SF := Lib.hid (S3.out.setCur 0 (r := ↑i) (c := ↑m) (b := false) rfl)
 go_wp2_with fail
 refine bodyPost_ret (results_ct Tryd.results31 _ _ b8 _ _ rfl (SF.out.box (k := 0) rfl) Tryd.underlying48 rfl pcursor_size) rfl ?_
 exact ⟨HF.out, rfl, HR.out, HV.out, rfl, SF.out.tail.tail.tail⟩
set_option maxRecDepth 100000 in
set_option maxHeartbeats 8000000 in
theorem does16_3n (hT : Tabs w0) (hS : Objs w0 w (.grid p 58 cols L :: .grid p2 33 cols L :: rest)) (hc : 0 < cols) (hcm : cols ≤ 1000) (hL : 0 < L.length) (hLm : L.length ≤ 1000) (hR : Rect cols L) (hV : AllV L) (hin : inG i j pend L.length cols = true) (hn : ¬ (0 : Int) ≤ n ∨ ((0 : Int) ≤ n ∧ ¬ n < (cols : Int))) :
  Calls Tryd.prog 31 #[.pointer (some ⟨p, 0, none⟩), .pointer (some ⟨p2, 0, none⟩), .agg #[.int .i64 ↑i, .int .i64 ↑j, .bool pend], .agg (av16 ⟨3, n, r, q, auto, ins⟩)] w (Does16 w0 p p2 cols L rest i j pend L) := by
 have S0 := Lib.hid hS
 have HT := Lib.hid hT
 have HIN := Lib.hid hin
 have HR := Lib.hid hR
 have HV := Lib.hid hV
 have hing := ingrid_iff.1 hin
 have hi : i < L.length := by omega
 have hj : j < cols := by omega
 obtain ⟨nw, hnw⟩ : ∃ nw, wOf r = nw := ⟨_, rfl⟩
 have HW := Lib.hid hnw
 clear hS hT hin hR hV hnw
 apply or2 hn
 case' a2 =>
  clear hn
  intro h
  have d1 : decide ((0 : Int) ≤ n) = false := decide_eq_false h
  clear h hing
 case' b2 =>
  clear hn
  intro h
  have d1 : decide ((0 : Int) ≤ n) = true := decide_eq_true h.1
  have d2 : decide (n < (cols : Int)) = false := decide_eq_false h.2
  clear h hing
 all_goals
  go_enter Tryd.func31, Tryd.ntmps31
  go_upto_region 1 with (fail)
  refine at_objsC (S0.out.alloc3 (c1 := #[.int .i64 ↑i, .int .i64 ↑j, .bool pend]) (t1 := 48) (c2 := av16 ⟨3, n, r, q, auto, ins⟩) (t2 := 56) (c3 := #[.int .i64 0, .int .i64 0, .bool false]) (t3 := 48)) (fun W hW => ?_)
  generalize w.heap.size + 1 + 1 = b8 at hW ⊢
  generalize w.heap.size + 1 = b7 at hW ⊢
  generalize w.heap.size = b6 at hW ⊢
  have S1 := Lib.hid hW
  clear hW S0
  obtain ⟨hx7, hf7, hz7, hr7, hp7⟩ := (S1.out.box (k := 1) rfl).act16
  go_wp2_with fail
  clear hx7 hf7 hz7 hr7 hp7
  refine (width_is HW.out _ (S1.out.tabs HT.out)).mono ?_
  rintro e w1 ⟨rfl, hb⟩
  have S2 := Lib.hid (S1.out.bel hb)
  clear hb S1
  obtain ⟨hx8, hf8, hz8⟩ := (S2.out.box (k := 0) rfl).facts
  obtain ⟨hx7, hf7, hz7, hr7, hp7⟩ := (S2.out.box (k := 1) rfl).act16
  obtain ⟨hx6, hf6, hz6⟩ := (S2.out.box (k := 2) rfl).facts
  obtain ⟨A, c, hB, hm, hr⟩ := S2.out.gridRd (k := 4) rfl
  obtain ⟨hx0, hf0, hz0⟩ := hB.facts
  clear hB hm hr
  go_upto_region 31 with (fail)
  refine wp_region_below (by kernel_rfl) (by kernel_rfl) ?_
  repeat (go_big_quiet_step (fail))
  refine wpQuiet_nil ?_
  intro w3 hb3
  have S3 := Lib.hid (S2.out.bel hb3)
  clear hb3 S2
  clear hx8 hf8 hz8 hx7 hf7 hz7 hr7 hp7 hx6 hf6 hz6
  clear hx0 hf0 hz0
  obtain ⟨hx8, hf8, hz8⟩ := (S3.out.box (k := 0) rfl).facts
  obtain ⟨hx7, hf7, hz7, hr7, hp7⟩ := (S3.out.box (k := 1) rfl).act16
  obtain ⟨hx6, hf6, hz6⟩ := (S3.out.box (k := 2) rfl).facts
  have SF := Lib.hid (S3.out.setCur 0 (r := ↑i) (c := ↑j) (b := pend) rfl)
  go_wp2_with fail
  refine bodyPost_ret (results_ct Tryd.results31 _ _ b8 _ _ rfl (SF.out.box (k := 0) rfl) Tryd.underlying48 rfl pcursor_size) rfl ?_
  exact ⟨HIN.out, rfl, HR.out, HV.out, rfl, SF.out.tail.tail.tail⟩
set_option maxRecDepth 100000 in
set_option maxHeartbeats 8000000 in
theorem does16_4y {m : Nat} (hT : Tabs w0) (hS : Objs w0 w (.grid p 58 cols L :: .grid p2 33 cols L :: rest)) (hc : 0 < cols) (hcm : cols ≤ 1000) (hL : 0 < L.length) (hLm : L.length ≤ 1000) (hR : Rect cols L) (hV : AllV L) (hin : inG i j pend L.length cols = true) (hn : (m : Int) < (L.length : Int)) :
  Calls Tryd.prog 31 #[.pointer (some ⟨p, 0, none⟩), .pointer (some ⟨p2, 0, none⟩), .agg #[.int .i64 ↑i, .int .i64 ↑j, .bool pend], .agg (av16 ⟨4, ↑m, r, q, auto, ins⟩)] w (Does16 w0 p p2 cols L rest m j false L) := by
 have S0 := Lib.hid hS
 have HT := Lib.hid hT
 have HIN := Lib.hid hin
 have HR := Lib.hid hR
 have HV := Lib.hid hV
 have hing := ingrid_iff.1 hin
 have hi : i < L.length := by omega
 have hj : j < cols := by omega
 obtain ⟨nw, hnw⟩ : ∃ nw, wOf r = nw := ⟨_, rfl⟩
 have HW := Lib.hid hnw
 clear hS hT hin hR hV hnw
 have HF := Lib.hid (show inG m j false L.length cols = true from ingrid_iff.2 ⟨by omega, by omega, by simp⟩)
 have d1 : decide ((0 : Int) ≤ (m : Int)) = true := decide_eq_true (by omega)
 have d2 : decide ((m : Int) < (L.length : Int)) = true := decide_eq_true hn
 have d3 : decide (m < L.length) = true := decide_eq_true (by omega)
 clear hn hing
 go_enter Tryd.func31, Tryd.ntmps31
 go_upto_region 1 with (fail)
 refine at_objsC (S0.out.alloc3 (c1 := #[.int .i64 ↑i, .int .i64 ↑j, .bool pend]) (t1 := 48) (c2 := av16 ⟨4, ↑m, r, q, auto, ins⟩) (t2 := 56) (c3 := #[.int .i64 0, .int .i64 0, .bool false]) (t3 := 48)) (fun W hW => ?_)
 generalize w.heap.size + 1 + 1 = b8 at hW ⊢
 generalize w.heap.size + 1 = b7 at hW ⊢
 generalize w.heap.size = b6 at hW ⊢
 have S1 := Lib.hid hW
 clear hW S0
 obtain ⟨hx7, hf7, hz7, hr7, hp7⟩ := (S1.out.box (k := 1) rfl).act16
 go_wp2_with fail
 clear hx7 hf7 hz7 hr7 hp7
 refine (width_is HW.out _ (S1.out.tabs HT.out)).mono ?_
 rintro e w1 ⟨rfl, hb⟩
 have S2 := Lib.hid (S1.out.bel hb)
 clear hb S1
 obtain ⟨hx8, hf8, hz8⟩ := (S2.out.box (k := 0) rfl).facts
 obtain ⟨hx7, hf7, hz7, hr7, hp7⟩ := (S2.out.box (k := 1) rfl).act16
 obtain ⟨hx6, hf6, hz6⟩ := (S2.out.box (k := 2) rfl).facts
 obtain ⟨A, c, hB, hm, hr⟩ := S2.out.gridRd (k := 4) rfl
 obtain ⟨hx0, hf0, hz0⟩ := hB.facts
 clear hB hm hr
 go_upto_region 34 with (fail)
 refine wp_region_below (by kernel_rfl) (by kernel_rfl) ?_
 repeat (go_big_quiet_step (fail))
 refine wpQuiet_nil ?_
 intro w3 hb3
 have S3 := Lib.hid (S2.out.bel hb3)
 clear hb3 S2
 clear hx8 hf8 hz8 hx7 hf7 hz7 hr7 hp7 hx6 hf6 hz6
 clear hx0 hf0 hz0
 obtain ⟨hx8, hf8, hz8⟩ := (S3.out.box (k := 0) rfl).facts
 obtain ⟨hx7, hf7, hz7, hr7, hp7⟩ := (S3.out.box (k := 1) rfl).act16
 obtain ⟨hx6, hf6, hz6⟩ := (S3.out.box (k := 2) rfl).facts
 have SF := Lib.hid (S3.out.setCur 0 (r := ↑m) (c := ↑j) (b := false) rfl)
 go_wp2_with fail
 refine bodyPost_ret (results_ct Tryd.results31 _ _ b8 _ _ rfl (SF.out.box (k := 0) rfl) Tryd.underlying48 rfl pcursor_size) rfl ?_
 exact ⟨HF.out, rfl, HR.out, HV.out, rfl, SF.out.tail.tail.tail⟩
set_option maxRecDepth 100000 in
set_option maxHeartbeats 8000000 in
theorem does16_4n (hT : Tabs w0) (hS : Objs w0 w (.grid p 58 cols L :: .grid p2 33 cols L :: rest)) (hc : 0 < cols) (hcm : cols ≤ 1000) (hL : 0 < L.length) (hLm : L.length ≤ 1000) (hR : Rect cols L) (hV : AllV L) (hin : inG i j pend L.length cols = true) (hn : ¬ (0 : Int) ≤ n ∨ ((0 : Int) ≤ n ∧ ¬ n < (L.length : Int))) :
  Calls Tryd.prog 31 #[.pointer (some ⟨p, 0, none⟩), .pointer (some ⟨p2, 0, none⟩), .agg #[.int .i64 ↑i, .int .i64 ↑j, .bool pend], .agg (av16 ⟨4, n, r, q, auto, ins⟩)] w (Does16 w0 p p2 cols L rest i j pend L) := by
 have S0 := Lib.hid hS
 have HT := Lib.hid hT
 have HIN := Lib.hid hin
 have HR := Lib.hid hR
 have HV := Lib.hid hV
 have hing := ingrid_iff.1 hin
 have hi : i < L.length := by omega
 have hj : j < cols := by omega
 obtain ⟨nw, hnw⟩ : ∃ nw, wOf r = nw := ⟨_, rfl⟩
 have HW := Lib.hid hnw
 clear hS hT hin hR hV hnw
 apply or2 hn
 case' a2 =>
  clear hn
  intro h
  have d1 : decide ((0 : Int) ≤ n) = false := decide_eq_false h
  clear h hing
 case' b2 =>
  clear hn
  intro h
  have d1 : decide ((0 : Int) ≤ n) = true := decide_eq_true h.1
  have d2 : decide (n < (L.length : Int)) = false := decide_eq_false h.2
  clear h hing
 all_goals
  go_enter Tryd.func31, Tryd.ntmps31
  go_upto_region 1 with (fail)
  refine at_objsC (S0.out.alloc3 (c1 := #[.int .i64 ↑i, .int .i64 ↑j, .bool pend]) (t1 := 48) (c2 := av16 ⟨4, n, r, q, auto, ins⟩) (t2 := 56) (c3 := #[.int .i64 0, .int .i64 0, .bool false]) (t3 := 48)) (fun W hW => ?_)
  generalize w.heap.size + 1 + 1 = b8 at hW ⊢
  generalize w.heap.size + 1 = b7 at hW ⊢
  generalize w.heap.size = b6 at hW ⊢
  have S1 := Lib.hid hW
  clear hW S0
  obtain ⟨hx7, hf7, hz7, hr7, hp7⟩ := (S1.out.box (k := 1) rfl).act16
  go_wp2_with fail
  clear hx7 hf7 hz7 hr7 hp7
  refine (width_is HW.out _ (S1.out.tabs HT.out)).mono ?_
  rintro e w1 ⟨rfl, hb⟩
  have S2 := Lib.hid (S1.out.bel hb)
  clear hb S1
  obtain ⟨hx8, hf8, hz8⟩ := (S2.out.box (k := 0) rfl).facts
  obtain ⟨hx7, hf7, hz7, hr7, hp7⟩ := (S2.out.box (k := 1) rfl).act16
  obtain ⟨hx6, hf6, hz6⟩ := (S2.out.box (k := 2) rfl).facts
  obtain ⟨A, c, hB, hm, hr⟩ := S2.out.gridRd (k := 4) rfl
  obtain ⟨hx0, hf0, hz0⟩ := hB.facts
  clear hB hm hr
  go_upto_region 34 with (fail)
  refine wp_region_below (by kernel_rfl) (by kernel_rfl) ?_
  repeat (go_big_quiet_step (fail))
  refine wpQuiet_nil ?_
  intro w3 hb3
  have S3 := Lib.hid (S2.out.bel hb3)
  clear hb3 S2
  clear hx8 hf8 hz8 hx7 hf7 hz7 hr7 hp7 hx6 hf6 hz6
  clear hx0 hf0 hz0
  obtain ⟨hx8, hf8, hz8⟩ := (S3.out.box (k := 0) rfl).facts
  obtain ⟨hx7, hf7, hz7, hr7, hp7⟩ := (S3.out.box (k := 1) rfl).act16
  obtain ⟨hx6, hf6, hz6⟩ := (S3.out.box (k := 2) rfl).facts
  have SF := Lib.hid (S3.out.setCur 0 (r := ↑i) (c := ↑j) (b := pend) rfl)
  go_wp2_with fail
  refine bodyPost_ret (results_ct Tryd.results31 _ _ b8 _ _ rfl (SF.out.box (k := 0) rfl) Tryd.underlying48 rfl pcursor_size) rfl ?_
  exact ⟨HIN.out, rfl, HR.out, HV.out, rfl, SF.out.tail.tail.tail⟩
end
end Go.Proofs.YtppijfjigcoifaaDoor

namespace Go.Proofs.YtppijfjigcoifaaDoor
open Go.RowKit

theorem printL_keeps {cols i j : Nat} {x0 : Cell} {ins : Bool} {L : List Ln} (hR : Rect cols L) (hV : AllV L) (hc : 0 < cols) (hj : j < cols) (hw12 : x0.width = 1 ∨ x0.width = 2) (hok : x0.ok = true) : (printL i j cols x0 ins L).length = L.length ∧ Rect cols (printL i j cols x0 ins L) ∧ AllV (printL i j cols x0 ins L) := by
 obtain ⟨hxw, hxc⟩ := prCell_width (x := x0) hc hw12
 obtain ⟨hfit, hat, -, -⟩ := prAt_fits (x := prCell cols x0) (j := j) hj hxw hxc
 have hko : (prCell cols x0).ok = true := by
  unfold prCell
  split
  ·rw [ok_blank]; exact ok_penV hok
  ·exact hok
 unfold printL
 exact ⟨rowMod_length _ _ _, hR.rowMod i (fun cs h => prRow_length h hat), hV.rowMod i (fun l hl => (hV l hl).print hko hxw (hR l hl) hfit)⟩
section
variable {w0 w : World} {rest : List Ob} {p p2 cols : Nat} {L : List Ln} {n r : Int} {q : Pen} {auto ins pend : Bool} {i j : Nat}
set_option maxRecDepth 100000 in
set_option maxHeartbeats 8000000 in
theorem does16_0w (hT : Tabs w0) (hS : Objs w0 w (.grid p 58 cols L :: .grid p2 33 cols L :: rest)) (hc : 0 < cols) (hcm : cols ≤ 1000) (hL : 0 < L.length) (hLm : L.length ≤ 1000) (hR : Rect cols L) (hV : AllV L) (hin : inG i j pend L.length cols = true) (h1 : ¬ wOf r = 1) (h2 : ¬ wOf r = 2) :
  Calls Tryd.prog 31 #[.pointer (some ⟨p, 0, none⟩), .pointer (some ⟨p2, 0, none⟩), .agg #[.int .i64 ↑i, .int .i64 ↑j, .bool pend], .agg (av16 ⟨0, n, r, q, auto, ins⟩)] w (Does16 w0 p p2 cols L rest i j pend L) := by
 have S0 := Lib.hid hS
 have HT := Lib.hid hT
 have HIN := Lib.hid hin
 have HR := Lib.hid hR
 have HV := Lib.hid hV
 have hing := ingrid_iff.1 hin
 have hi : i < L.length := by omega
 have hj : j < cols := by omega
 obtain ⟨nw, hnw⟩ : ∃ nw, wOf r = nw := ⟨_, rfl⟩
 have HW := Lib.hid hnw
 have hlt : nw < 1 := by rcases wOf_cases r with h | h | h | h <;> omega
 have HLT := Lib.hid (show wOf r < 1 by rw [hnw]; exact hlt)
 have HBAD := Lib.hid (show wOf r < 1 ∨ q.ok = false from .inl HLT.out)
 rw [hnw] at h1 h2
 have d1 := bne_yes h1
 have d2 := bne_yes h2
 have d3 := beq_no h1
 have d4 := beq_no h2
 clear h1 h2 hlt
 clear hS hT hin hR hV hnw
 clear hing
 go_enter Tryd.func31, Tryd.ntmps31
 go_upto_region 1 with (fail)
 refine at_objsC (S0.out.alloc3 (c1 := #[.int .i64 ↑i, .int .i64 ↑j, .bool pend]) (t1 := 48) (c2 := av16 ⟨0, n, r, q, auto, ins⟩) (t2 := 56) (c3 := #[.int .i64 0, .int .i64 0, .bool false]) (t3 := 48)) (fun W hW => ?_)
 generalize w.heap.size + 1 + 1 = b8 at hW ⊢
 generalize w.heap.size + 1 = b7 at hW ⊢
 generalize w.heap.size = b6 at hW ⊢
 have S1 := Lib.hid hW
 clear hW S0
 obtain ⟨hx7, hf7, hz7, hr7, hp7⟩ := (S1.out.box (k := 1) rfl).act16
 go_wp2_with fail
 clear hx7 hf7 hz7 hr7 hp7
 refine (width_is HW.out _ (S1.out.tabs HT.out)).mono ?_
 rintro e w1 ⟨rfl, hb⟩
 have S2 := Lib.hid (S1.out.bel hb)
 clear hb S1
 obtain ⟨hx8, hf8, hz8⟩ := (S2.out.box (k := 0) rfl).facts
 obtain ⟨hx7, hf7, hz7, hr7, hp7⟩ := (S2.out.box (k := 1) rfl).act16
 obtain ⟨hx6, hf6, hz6⟩ := (S2.out.box (k := 2) rfl).facts
 go_upto_region 6 with (fail)
 clear hx8 hf8 hz8 hx7 hf7 hz7 hr7 hp7 hx6 hf6 hz6
 clear d1 d2 d3 d4
 have S3 := S2
 clear S2
 refine wp_region_stage (w0 := w0) (os := rest) (by kernel_rfl) (by kernel_rfl) (by kernel_rfl) [(0, 25, [], fun vs => .box b8 48 #[.int .i64 ↑i, .int .i64 ↑j, .bool pend])] [[2], [], [2], [], [1], [], [1], [], [1], [], [1], [], [3], [], [], [], [], [2], [], [1], [], [1], [3], [], [], [0], []] [.box b8 48 #[.int .i64 0, .int .i64 0, .bool false], .box b7 56 (av16 ⟨0, n, r, q, auto, ins⟩), .box b6 48 #[.int .i64 ↑i, .int .i64 ↑j, .bool pend], .grid p 58 cols L, .grid p2 33 cols L] (fun opn u => match opn with | 0 => u = .agg #[.int .i64 ↑i, .int .i64 ↑j, .bool pend] | 1 => u = pt p 0 | 2 => u = .agg #[.int .i64 ↑i, .int .i64 ↑j, .bool pend] | 3 => u = pt b7 2 | 4 => u = .int .i32 r | 5 => u = pt b7 3 | 6 => u = .agg (pv q) | 7 => u = pt b7 14 | 8 => u = .bool auto | 9 => u = pt b7 15 | 10 => u = .bool ins | 11 => u = .agg #[.int .i64 0, .int .i64 0, .bool false] | 12 => u = .bool true | 13 => u = .bool true | 14 => u = .bool false | 15 => u = .bool false | 16 => u = pt p 0 | 17 => u = .agg #[.int .i64 ↑i, .int .i64 ↑j, .bool pend] | 18 => u = pt b7 2 | 19 => u = .int .i32 r | 20 => u = pt b7 14 | 21 => u = .bool auto | 22 => u = .bool true | 23 => u = .bool true | 24 => u = .bool true | 25 => True | 26 => u = .bool true | _ => True) (fun vs => [.box b8 48 #[.int .i64 ↑i, .int .i64 ↑j, .bool pend], .box b7 56 (av16 ⟨0, n, r, q, auto, ins⟩), .box b6 48 #[.int .i64 ↑i, .int .i64 ↑j, .bool pend], .grid p 58 cols L, .grid p2 33 cols L]) (by kernel_rfl) (fun vs => by rfl) S3.out ?_ ?_
 ·apply sc
  ·intro a w' vs σ hS hl hs hk
   have f6 : a.tmps[6]?.getD undef = .pointer (some ⟨b6, 0, none⟩) := sof hk
   have hx := (hS.box (sg (hs 2 (by decide)))).cell
   exact rp (.agg #[.int .i64 ↑i, .int .i64 ↑j, .bool pend]) (by simp [execOp, Act.eval, f6, go_sem, hx]) hl hs hS
  apply sc
  ·intro a w' vs σ hS hl hs hk
   have f0 : a.tmps[0]?.getD undef = .pointer (some ⟨p, 0, none⟩) := sof hk
   exact rp (pt p 0) (by simp [execOp, Act.eval, f0, go_sem]) hl hs hS
  apply sc
  ·intro a w' vs σ hS hl hs hk
   have f6 : a.tmps[6]?.getD undef = .pointer (some ⟨b6, 0, none⟩) := sof hk
   have hx := (hS.box (sg (hs 2 (by decide)))).cell
   exact rp (.agg #[.int .i64 ↑i, .int .i64 ↑j, .bool pend]) (by simp [execOp, Act.eval, f6, go_sem, hx]) hl hs hS
  apply sc
  ·intro a w' vs σ hS hl hs hk
   have f7 : a.tmps[7]?.getD undef = .pointer (some ⟨b7, 0, none⟩) := sof hk
   exact rp (pt b7 2) (by simp [execOp, Act.eval, f7, go_sem]) hl hs hS
  apply sc
  ·intro a w' vs σ hS hl hs hk
   have f47 : a.tmps[47]?.getD undef = .pointer (some ⟨b7, 2, none⟩) := sf hk 3
   have hx := (hS.box (sg (hs 1 (by decide)))).cell
   exact rp (.int .i32 r) (by simp [execOp, Act.eval, f47, go_sem, hx]) hl hs hS
  apply sc
  ·intro a w' vs σ hS hl hs hk
   have f7 : a.tmps[7]?.getD undef = .pointer (some ⟨b7, 0, none⟩) := sof hk
   exact rp (pt b7 3) (by simp [execOp, Act.eval, f7, go_sem]) hl hs hS
  apply sc
  ·intro a w' vs σ hS hl hs hk
   have f49 : a.tmps[49]?.getD undef = .pointer (some ⟨b7, 3, none⟩) := sf hk 5
   have hx := (hS.box (sg (hs 1 (by decide)))).act16.2.2.2.2
   exact rp (.agg (pv q)) (by simp [execOp, Act.eval, f49, go_sem, hx]) hl hs hS
  apply sc
  ·intro a w' vs σ hS hl hs hk
   have f7 : a.tmps[7]?.getD undef = .pointer (some ⟨b7, 0, none⟩) := sof hk
   exact rp (pt b7 14) (by simp [execOp, Act.eval, f7, go_sem]) hl hs hS
  apply sc
  ·intro a w' vs σ hS hl hs hk
   have f51 : a.tmps[51]?.getD undef = .pointer (some ⟨b7, 14, none⟩) := sf hk 7
   have hx := (hS.box (sg (hs 1 (by decide)))).cell
   exact rp (.bool auto) (by simp [execOp, Act.eval, f51, go_sem, hx]) hl hs hS
  apply sc
  ·intro a w' vs σ hS hl hs hk
   have f7 : a.tmps[7]?.getD undef = .pointer (some ⟨b7, 0, none⟩) := sof hk
   exact rp (pt b7 15) (by simp [execOp, Act.eval, f7, go_sem]) hl hs hS
  apply sc
  ·intro a w' vs σ hS hl hs hk
   have f53 : a.tmps[53]?.getD undef = .pointer (some ⟨b7, 15, none⟩) := sf hk 9
   have hx := (hS.box (sg (hs 1 (by decide)))).cell
   exact rp (.bool ins) (by simp [execOp, Act.eval, f53, go_sem, hx]) hl hs hS
  apply sc
  ·intro a w' vs σ hS hl hs hk
   exact rp (.agg #[.int .i64 0, .int .i64 0, .bool false]) (by simp [execOp, Act.eval, go_sem]) hl hs hS
  apply sc
  ·intro a w' vs σ hS hl hs hk
   have e45 : a.tmps.getD 45 undef = .pointer (some ⟨p, 0, none⟩) := sv hk 1
   have e46 : a.tmps.getD 46 undef = .agg #[.int .i64 ↑i, .int .i64 ↑j, .bool pend] := sv hk 2
   have e48 : a.tmps.getD 48 undef = .int .i32 r := sv hk 4
   have e50 : a.tmps.getD 50 undef = .agg (pv q) := sv hk 6
   have e52 : a.tmps.getD 52 undef = .bool auto := sv hk 8
   have e54 : a.tmps.getD 54 undef = .bool ins := sv hk 10
   have e55 : a.tmps.getD 55 undef = .agg #[.int .i64 0, .int .i64 0, .bool false] := sv hk 11
   exact ro_call (f := 27) (wanted_none rfl) rfl (by simp only [List.map_toArray, List.map_cons, List.map_nil, Act.eval, e45, e46, e48, e50, e52, e54, e55] <;> rfl) (fun _ _ => by kernel_rfl) ((prints_bad HT.out hS (k := 3) (sg (hs 3 (by decide))) hc hcm hL HIN.out HBAD.out).mono fun e w2 ⟨h1, h2⟩ => ⟨_, h1, sp_same (by kernel_rfl) hl hs h2 rfl, trivial⟩)
  apply sc
  ·intro a w' vs σ hS hl hs hk
   have f56 : a.tmps[56]?.getD undef = .bool true := sf hk 12
   exact rp (.bool true) (by simp [execOp, Act.eval, f56, go_sem]) hl hs hS
  apply sc
  ·intro a w' vs σ hS hl hs hk
   have f11 : a.tmps[11]?.getD undef = .bool false := sof hk
   exact rq (.bool false) (wanted_yes rfl rfl rfl (sv hk 13)) (by simp [execOp, Act.eval, f11, go_sem]) hl hs hS
  apply sc
  ·intro a w' vs σ hS hl hs hk
   have f58 : a.tmps[58]?.getD undef = .bool false := sf hk 14
   exact rq (.bool false) (wanted_yes rfl rfl rfl (sv hk 13)) (by simp [execOp, Act.eval, f58, go_sem]) hl hs hS
  apply sc
  ·intro a w' vs σ hS hl hs hk
   have f0 : a.tmps[0]?.getD undef = .pointer (some ⟨p, 0, none⟩) := sof hk
   exact rq (pt p 0) (wanted_yes rfl rfl rfl (sv hk 15)) (by simp [execOp, Act.eval, f0, go_sem]) hl hs hS
  apply sc
  ·intro a w' vs σ hS hl hs hk
   have f6 : a.tmps[6]?.getD undef = .pointer (some ⟨b6, 0, none⟩) := sof hk
   have hx := (hS.box (sg (hs 2 (by decide)))).cell
   exact rq (.agg #[.int .i64 ↑i, .int .i64 ↑j, .bool pend]) (wanted_yes rfl rfl rfl (sv hk 15)) (by simp [execOp, Act.eval, f6, go_sem, hx]) hl hs hS
  apply sc
  ·intro a w' vs σ hS hl hs hk
   have f7 : a.tmps[7]?.getD undef = .pointer (some ⟨b7, 0, none⟩) := sof hk
   exact rq (pt b7 2) (wanted_yes rfl rfl rfl (sv hk 15)) (by simp [execOp, Act.eval, f7, go_sem]) hl hs hS
  apply sc
  ·intro a w' vs σ hS hl hs hk
   have f62 : a.tmps[62]?.getD undef = .pointer (some ⟨b7, 2, none⟩) := sf hk 18
   have hx := (hS.box (sg (hs 1 (by decide)))).cell
   exact rq (.int .i32 r) (wanted_yes rfl rfl rfl (sv hk 15)) (by simp [execOp, Act.eval, f62, go_sem, hx]) hl hs hS
  apply sc
  ·intro a w' vs σ hS hl hs hk
   have f7 : a.tmps[7]?.getD undef = .pointer (some ⟨b7, 0, none⟩) := sof hk
   exact rq (pt b7 14) (wanted_yes rfl rfl rfl (sv hk 15)) (by simp [execOp, Act.eval, f7, go_sem]) hl hs hS
  apply sc
  ·intro a w' vs σ hS hl hs hk
   have f64 : a.tmps[64]?.getD undef = .pointer (some ⟨b7, 14, none⟩) := sf hk 20
   have hx := (hS.box (sg (hs 1 (by decide)))).cell
   exact rq (.bool auto) (wanted_yes rfl rfl rfl (sv hk 15)) (by simp [execOp, Act.eval, f64, go_sem, hx]) hl hs hS
  apply sc
  ·intro a w' vs σ hS hl hs hk
   have e60 : a.tmps.getD 60 undef = .pointer (some ⟨p, 0, none⟩) := sv hk 16
   have e61 : a.tmps.getD 61 undef = .agg #[.int .i64 ↑i, .int .i64 ↑j, .bool pend] := sv hk 17
   have e63 : a.tmps.getD 63 undef = .int .i32 r := sv hk 19
   have e65 : a.tmps.getD 65 undef = .bool auto := sv hk 21
   exact ro_call (f := 28) (wanted_yes rfl rfl rfl (sv hk 15)) rfl (by simp only [List.map_toArray, List.map_cons, List.map_nil, Act.eval, e60, e61, e63, e65] <;> rfl) (fun _ _ => by kernel_rfl) ((wraps_bad HT.out hS (k := 3) (sg (hs 3 (by decide))) hc hcm hL HIN.out HLT.out).mono fun e w2 ⟨h1, h2⟩ => ⟨_, h1, sp_same (by kernel_rfl) hl hs h2 rfl, trivial⟩)
  apply sc
  ·intro a w' vs σ hS hl hs hk
   have f59 : a.tmps[59]?.getD undef = .bool false := sf hk 15
   have f66 : a.tmps[66]?.getD undef = .bool true := sf hk 22
   exact rq (.bool true) (wanted_yes rfl rfl rfl (sv hk 13)) (by simp [execOp, Act.eval, f59, f66, go_sem]) hl hs hS
  apply sc
  ·intro a w' vs σ hS hl hs hk
   have f57 : a.tmps[57]?.getD undef = .bool true := sf hk 13
   have f67 : a.tmps[67]?.getD undef = .bool true := sf hk 23
   exact rp (.bool true) (by simp [execOp, Act.eval, f57, f67, go_sem]) hl hs hS
  apply sc
  ·intro a w' vs σ hS hl hs hk
   have f8 : a.tmps[8]?.getD undef = .pointer (some ⟨b8, 0, none⟩) := sof hk
   have f44 : a.tmps[44]?.getD undef = .agg #[.int .i64 ↑i, .int .i64 ↑j, .bool pend] := sf hk 0
   have h1 : σ[0]? = some (.box b8 48 #[.int .i64 0, .int .i64 0, .bool false]) := hs 0 (by decide)
   obtain ⟨hx, hf, hz⟩ := (hS.box (sg h1)).facts
   exact rstep_store (w2 := ((w'.setCell ⟨b8, 0, none⟩ (.int .i64 ↑i)).setCell ⟨b8, 1, none⟩ (.int .i64 ↑j)).setCell ⟨b8, 2, none⟩ (.bool pend)) (wanted_none rfl) rfl (by simp [execOp, Act.eval, f8, f44, hx, hf, hz, go_sem]) (sp_set 0 (.box b8 48 #[.int .i64 ↑i, .int .i64 ↑j, .bool pend]) (by kernel_rfl) (by simp) (by decide) hl hs (by rfl) (hS.setCur 0 (sg h1)) trivial) trivial
  apply sc
  ·intro a w' vs σ hS hl hs hk
   have f68 : a.tmps[68]?.getD undef = .bool true := sf hk 24
   exact rp (.bool true) (by simp [execOp, Act.eval, f68, go_sem]) hl hs hS
  exact SSteps.nil
 ·intro vs w' hS hv
  have q0 : vs 0 = _ := hv 0 (by decide)
  have q1 : vs 1 = _ := hv 1 (by decide)
  have q2 : vs 2 = _ := hv 2 (by decide)
  have q3 : vs 3 = _ := hv 3 (by decide)
  have q4 : vs 4 = _ := hv 4 (by decide)
  have q5 : vs 5 = _ := hv 5 (by decide)
  have q6 : vs 6 = _ := hv 6 (by decide)
  have q7 : vs 7 = _ := hv 7 (by decide)
  have q8 : vs 8 = _ := hv 8 (by decide)
  have q9 : vs 9 = _ := hv 9 (by decide)
  have q10 : vs 10 = _ := hv 10 (by decide)
  have q11 : vs 11 = _ := hv 11 (by decide)
  have q12 : vs 12 = _ := hv 12 (by decide)
  have q13 : vs 13 = _ := hv 13 (by decide)
  have q14 : vs 14 = _ := hv 14 (by decide)
  have q15 : vs 15 = _ := hv 15 (by decide)
  have q16 : vs 16 = _ := hv 16 (by decide)
  have q17 : vs 17 = _ := hv 17 (by decide)
  have q18 : vs 18 = _ := hv 18 (by decide)
  have q19 : vs 19 = _ := hv 19 (by decide)
  have q20 : vs 20 = _ := hv 20 (by decide)
  have q21 : vs 21 = _ := hv 21 (by decide)
  have q22 : vs 22 = _ := hv 22 (by decide)
  have q23 : vs 23 = _ := hv 23 (by decide)
  have q24 : vs 24 = _ := hv 24 (by decide)
  have q26 : vs 26 = _ := hv 26 (by decide)
  have S2 := Lib.hid hS
  simp only [putL, Act.put, Nat.zero_add, Nat.reduceAdd, List.setIfInBounds_toArray, List.set_cons_succ, List.set_cons_zero, q0, q1, q2, q3, q4, q5, q6, q7, q8, q9, q10, q11, q12, q13, q14, q15, q16, q17, q18, q19, q20, q21, q22, q23, q24, q26]
  clear hS hv q0 q1 q2 q3 q4 q5 q6 q7 q8 q9 q10 q11 q12 q13 q14 q15 q16 q17 q18 q19 q20 q21 q22 q23 q24 q26
  clear S3
  have SF := S2
  clear S2
  go_wp2_with fail
  refine bodyPost_ret (results_ct Tryd.results31 _ _ b8 _ _ rfl (SF.out.box (k := 0) rfl) Tryd.underlying48 rfl pcursor_size) rfl ?_
  exact ⟨HIN.out, rfl, HR.out, HV.out, rfl, SF.out.tail.tail.tail⟩
set_option maxRecDepth 100000 in
set_option maxHeartbeats 8000000 in
theorem does16_0q (hT : Tabs w0) (hS : Objs w0 w (.grid p 58 cols L :: .grid p2 33 cols L :: rest)) (hc : 0 < cols) (hcm : cols ≤ 1000) (hL : 0 < L.length) (hLm : L.length ≤ 1000) (hR : Rect cols L) (hV : AllV L) (hin : inG i j pend L.length cols = true) (hw : wOf r = 1 ∨ wOf r = 2) (hq : q.ok = false) :
  Calls Tryd.prog 31 #[.pointer (some ⟨p, 0, none⟩), .pointer (some ⟨p2, 0, none⟩), .agg #[.int .i64 ↑i, .int .i64 ↑j, .bool pend], .agg (av16 ⟨0, n, r, q, auto, ins⟩)] w (Does16 w0 p p2 cols L rest i j pend L) := by
 have S0 := Lib.hid hS
 have HT := Lib.hid hT
 have HIN := Lib.hid hin
 have HR := Lib.hid hR
 have HV := Lib.hid hV
 have hing := ingrid_iff.1 hin
 have hi : i < L.length := by omega
 have hj : j < cols := by omega
 obtain ⟨nw, hnw⟩ : ∃ nw, wOf r = nw := ⟨_, rfl⟩
 have HQ := Lib.hid hq
 have HBAD := Lib.hid (show wOf r < 1 ∨ q.ok = false from .inr hq)
 clear hq
 clear hS hT hin hR hV hing
 have hwc := hw
 rcases hw with hw | hw
 all_goals
  rw [hw] at hnw
  subst hnw
  have HW := Lib.hid hw
  clear hw hwc
  go_enter Tryd.func31, Tryd.ntmps31
  go_upto_region 1 with (fail)
  refine at_objsC (S0.out.alloc3 (c1 := #[.int .i64 ↑i, .int .i64 ↑j, .bool pend]) (t1 := 48) (c2 := av16 ⟨0, n, r, q, auto, ins⟩) (t2 := 56) (c3 := #[.int .i64 0, .int .i64 0, .bool false]) (t3 := 48)) (fun W hW => ?_)
  generalize w.heap.size + 1 + 1 = b8 at hW ⊢
  generalize w.heap.size + 1 = b7 at hW ⊢
  generalize w.heap.size = b6 at hW ⊢
  have S1 := Lib.hid hW
  clear hW S0
  obtain ⟨hx7, hf7, hz7, hr7, hp7⟩ := (S1.out.box (k := 1) rfl).act16
  go_wp2_with fail
  clear hx7 hf7 hz7 hr7 hp7
  refine (width_is HW.out _ (S1.out.tabs HT.out)).mono ?_
  rintro e w1 ⟨rfl, hb⟩
  have S2 := Lib.hid (S1.out.bel hb)
  clear hb S1
  obtain ⟨hx8, hf8, hz8⟩ := (S2.out.box (k := 0) rfl).facts
  obtain ⟨hx7, hf7, hz7, hr7, hp7⟩ := (S2.out.box (k := 1) rfl).act16
  obtain ⟨hx6, hf6, hz6⟩ := (S2.out.box (k := 2) rfl).facts
  go_wp2_with fail
  clear hx8 hf8 hz8 hx7 hf7 hz7 hr7 hp7 hx6 hf6 hz6
  refine (show Calls Tryd.prog 36 #[.agg (pv q)] _ _ from (by have hcon := l16valid_any q HT.out S2.out; rw [HQ.out] at hcon; exact hcon)).mono ?_
  rintro e w2 ⟨rfl, hS⟩
  have S4 := Lib.hid hS
  clear hS S2
  go_upto_region 6 with (fail)
  refine wp_region_stage (w0 := w0) (os := rest) (by kernel_rfl) (by kernel_rfl) (by kernel_rfl) [(0, 25, [], fun vs => .box b8 48 #[.int .i64 ↑i, .int .i64 ↑j, .bool pend])] [[2], [], [2], [], [1], [], [1], [], [1], [], [1], [], [3], [], [], [], [], [], [], [], [], [], [], [], [], [0], []] [.box b8 48 #[.int .i64 0, .int .i64 0, .bool false], .box b7 56 (av16 ⟨0, n, r, q, auto, ins⟩), .box b6 48 #[.int .i64 ↑i, .int .i64 ↑j, .bool pend], .grid p 58 cols L, .grid p2 33 cols L] (fun opn u => match opn with | 0 => u = .agg #[.int .i64 ↑i, .int .i64 ↑j, .bool pend] | 1 => u = pt p 0 | 2 => u = .agg #[.int .i64 ↑i, .int .i64 ↑j, .bool pend] | 3 => u = pt b7 2 | 4 => u = .int .i32 r | 5 => u = pt b7 3 | 6 => u = .agg (pv q) | 7 => u = pt b7 14 | 8 => u = .bool auto | 9 => u = pt b7 15 | 10 => u = .bool ins | 11 => u = .agg #[.int .i64 0, .int .i64 0, .bool false] | 12 => u = .bool true | 13 => u = .bool true | 14 => u = .bool true | 15 => u = .bool true | 16 => u = (undef : Value) | 17 => u = (undef : Value) | 18 => u = (undef : Value) | 19 => u = (undef : Value) | 20 => u = (undef : Value) | 21 => u = (undef : Value) | 22 => u = (undef : Value) | 23 => u = .bool true | 24 => u = .bool true | 25 => True | 26 => u = .bool true | _ => True) (fun vs => [.box b8 48 #[.int .i64 ↑i, .int .i64 ↑j, .bool pend], .box b7 56 (av16 ⟨0, n, r, q, auto, ins⟩), .box b6 48 #[.int .i64 ↑i, .int .i64 ↑j, .bool pend], .grid p 58 cols L, .grid p2 33 cols L]) (by kernel_rfl) (fun vs => by rfl) S4.out ?_ ?_
  ·apply sc
   ·intro a w' vs σ hS hl hs hk
    have f6 : a.tmps[6]?.getD undef = .pointer (some ⟨b6, 0, none⟩) := sof hk
    have hx := (hS.box (sg (hs 2 (by decide)))).cell
    exact rp (.agg #[.int .i64 ↑i, .int .i64 ↑j, .bool pend]) (by simp [execOp, Act.eval, f6, go_sem, hx]) hl hs hS
   apply sc
   ·intro a w' vs σ hS hl hs hk
    have f0 : a.tmps[0]?.getD undef = .pointer (some ⟨p, 0, none⟩) := sof hk
    exact rp (pt p 0) (by simp [execOp, Act.eval, f0, go_sem]) hl hs hS
   apply sc
   ·intro a w' vs σ hS hl hs hk
    have f6 : a.tmps[6]?.getD undef = .pointer (some ⟨b6, 0, none⟩) := sof hk
    have hx := (hS.box (sg (hs 2 (by decide)))).cell
    exact rp (.agg #[.int .i64 ↑i, .int .i64 ↑j, .bool pend]) (by simp [execOp, Act.eval, f6, go_sem, hx]) hl hs hS
   apply sc
   ·intro a w' vs σ hS hl hs hk
    have f7 : a.tmps[7]?.getD undef = .pointer (some ⟨b7, 0, none⟩) := sof hk
    exact rp (pt b7 2) (by simp [execOp, Act.eval, f7, go_sem]) hl hs hS
   apply sc
   ·intro a w' vs σ hS hl hs hk
    have f47 : a.tmps[47]?.getD undef = .pointer (some ⟨b7, 2, none⟩) := sf hk 3
    have hx := (hS.box (sg (hs 1 (by decide)))).cell
    exact rp (.int .i32 r) (by simp [execOp, Act.eval, f47, go_sem, hx]) hl hs hS
   apply sc
   ·intro a w' vs σ hS hl hs hk
    have f7 : a.tmps[7]?.getD undef = .pointer (some ⟨b7, 0, none⟩) := sof hk
    exact rp (pt b7 3) (by simp [execOp, Act.eval, f7, go_sem]) hl hs hS
   apply sc
   ·intro a w' vs σ hS hl hs hk
    have f49 : a.tmps[49]?.getD undef = .pointer (some ⟨b7, 3, none⟩) := sf hk 5
    have hx := (hS.box (sg (hs 1 (by decide)))).act16.2.2.2.2
    exact rp (.agg (pv q)) (by simp [execOp, Act.eval, f49, go_sem, hx]) hl hs hS
   apply sc
   ·intro a w' vs σ hS hl hs hk
    have f7 : a.tmps[7]?.getD undef = .pointer (some ⟨b7, 0, none⟩) := sof hk
    exact rp (pt b7 14) (by simp [execOp, Act.eval, f7, go_sem]) hl hs hS
   apply sc
   ·intro a w' vs σ hS hl hs hk
    have f51 : a.tmps[51]?.getD undef = .pointer (some ⟨b7, 14, none⟩) := sf hk 7
    have hx := (hS.box (sg (hs 1 (by decide)))).cell
    exact rp (.bool auto) (by simp [execOp, Act.eval, f51, go_sem, hx]) hl hs hS
   apply sc
   ·intro a w' vs σ hS hl hs hk
    have f7 : a.tmps[7]?.getD undef = .pointer (some ⟨b7, 0, none⟩) := sof hk
    exact rp (pt b7 15) (by simp [execOp, Act.eval, f7, go_sem]) hl hs hS
   apply sc
   ·intro a w' vs σ hS hl hs hk
    have f53 : a.tmps[53]?.getD undef = .pointer (some ⟨b7, 15, none⟩) := sf hk 9
    have hx := (hS.box (sg (hs 1 (by decide)))).cell
    exact rp (.bool ins) (by simp [execOp, Act.eval, f53, go_sem, hx]) hl hs hS
   apply sc
   ·intro a w' vs σ hS hl hs hk
    exact rp (.agg #[.int .i64 0, .int .i64 0, .bool false]) (by simp [execOp, Act.eval, go_sem]) hl hs hS
   apply sc
   ·intro a w' vs σ hS hl hs hk
    have e45 : a.tmps.getD 45 undef = .pointer (some ⟨p, 0, none⟩) := sv hk 1
    have e46 : a.tmps.getD 46 undef = .agg #[.int .i64 ↑i, .int .i64 ↑j, .bool pend] := sv hk 2
    have e48 : a.tmps.getD 48 undef = .int .i32 r := sv hk 4
    have e50 : a.tmps.getD 50 undef = .agg (pv q) := sv hk 6
    have e52 : a.tmps.getD 52 undef = .bool auto := sv hk 8
    have e54 : a.tmps.getD 54 undef = .bool ins := sv hk 10
    have e55 : a.tmps.getD 55 undef = .agg #[.int .i64 0, .int .i64 0, .bool false] := sv hk 11
    exact ro_call (f := 27) (wanted_none rfl) rfl (by simp only [List.map_toArray, List.map_cons, List.map_nil, Act.eval, e45, e46, e48, e50, e52, e54, e55] <;> rfl) (fun _ _ => by kernel_rfl) ((prints_bad HT.out hS (k := 3) (sg (hs 3 (by decide))) hc hcm hL HIN.out HBAD.out).mono fun e w2 ⟨h1, h2⟩ => ⟨_, h1, sp_same (by kernel_rfl) hl hs h2 rfl, trivial⟩)
   apply sc
   ·intro a w' vs σ hS hl hs hk
    have f56 : a.tmps[56]?.getD undef = .bool true := sf hk 12
    exact rp (.bool true) (by simp [execOp, Act.eval, f56, go_sem]) hl hs hS
   apply sc
   ·intro a w' vs σ hS hl hs hk
    have f11 : a.tmps[11]?.getD undef = .bool true := sof hk
    exact rq (.bool true) (wanted_yes rfl rfl rfl (sv hk 13)) (by simp [execOp, Act.eval, f11, go_sem]) hl hs hS
   apply sc
   ·intro a w' vs σ hS hl hs hk
    have f58 : a.tmps[58]?.getD undef = .bool true := sf hk 14
    exact rq (.bool true) (wanted_yes rfl rfl rfl (sv hk 13)) (by simp [execOp, Act.eval, f58, go_sem]) hl hs hS
   apply sc
   ·intro a w' vs σ hS hl hs hk
    exact rs_skip (wanted_no rfl rfl rfl (sv hk 15) (by decide)) (sp_same (by kernel_rfl) hl hs hS rfl)
   apply sc
   ·intro a w' vs σ hS hl hs hk
    exact rs_skip (wanted_no rfl rfl rfl (sv hk 15) (by decide)) (sp_same (by kernel_rfl) hl hs hS rfl)
   apply sc
   ·intro a w' vs σ hS hl hs hk
    exact rs_skip (wanted_no rfl rfl rfl (sv hk 15) (by decide)) (sp_same (by kernel_rfl) hl hs hS rfl)
   apply sc
   ·intro a w' vs σ hS hl hs hk
    exact rs_skip (wanted_no rfl rfl rfl (sv hk 15) (by decide)) (sp_same (by kernel_rfl) hl hs hS rfl)
   apply sc
   ·intro a w' vs σ hS hl hs hk
    exact rs_skip (wanted_no rfl rfl rfl (sv hk 15) (by decide)) (sp_same (by kernel_rfl) hl hs hS rfl)
   apply sc
   ·intro a w' vs σ hS hl hs hk
    exact rs_skip (wanted_no rfl rfl rfl (sv hk 15) (by decide)) (sp_same (by kernel_rfl) hl hs hS rfl)
   apply sc
   ·intro a w' vs σ hS hl hs hk
    exact rs_skip (wanted_no rfl rfl rfl (sv hk 15) (by decide)) (sp_same (by kernel_rfl) hl hs hS rfl)
   apply sc
   ·intro a w' vs σ hS hl hs hk
    have f59 : a.tmps[59]?.getD undef = .bool true := sf hk 15
    have f66 : a.tmps[66]?.getD undef = (undef : Value) := sf hk 22
    exact rq (.bool true) (wanted_yes rfl rfl rfl (sv hk 13)) (by simp [execOp, Act.eval, f59, f66, go_sem]) hl hs hS
   apply sc
   ·intro a w' vs σ hS hl hs hk
    have f57 : a.tmps[57]?.getD undef = .bool true := sf hk 13
    have f67 : a.tmps[67]?.getD undef = .bool true := sf hk 23
    exact rp (.bool true) (by simp [execOp, Act.eval, f57, f67, go_sem]) hl hs hS
   apply sc
   ·intro a w' vs σ hS hl hs hk
    have f8 : a.tmps[8]?.getD undef = .pointer (some ⟨b8, 0, none⟩) := sof hk
    have f44 : a.tmps[44]?.getD undef = .agg #[.int .i64 ↑i, .int .i64 ↑j, .bool pend] := sf hk 0
    have h1 : σ[0]? = some (.box b8 48 #[.int .i64 0, .int .i64 0, .bool false]) := hs 0 (by decide)
    obtain ⟨hx, hf, hz⟩ := (hS.box (sg h1)).facts
    exact rstep_store (w2 := ((w'.setCell ⟨b8, 0, none⟩ (.int .i64 ↑i)).setCell ⟨b8, 1, none⟩ (.int .i64 ↑j)).setCell ⟨b8, 2, none⟩ (.bool pend)) (wanted_none rfl) rfl (by simp [execOp, Act.eval, f8, f44, hx, hf, hz, go_sem]) (sp_set 0 (.box b8 48 #[.int .i64 ↑i, .int .i64 ↑j, .bool pend]) (by kernel_rfl) (by simp) (by decide) hl hs (by rfl) (hS.setCur 0 (sg h1)) trivial) trivial
   apply sc
   ·intro a w' vs σ hS hl hs hk
    have f68 : a.tmps[68]?.getD undef = .bool true := sf hk 24
    exact rp (.bool true) (by simp [execOp, Act.eval, f68, go_sem]) hl hs hS
   exact SSteps.nil
  ·intro vs w' hS hv
   have q0 : vs 0 = _ := hv 0 (by decide)
   have q1 : vs 1 = _ := hv 1 (by decide)
   have q2 : vs 2 = _ := hv 2 (by decide)
   have q3 : vs 3 = _ := hv 3 (by decide)
   have q4 : vs 4 = _ := hv 4 (by decide)
   have q5 : vs 5 = _ := hv 5 (by decide)
   have q6 : vs 6 = _ := hv 6 (by decide)
   have q7 : vs 7 = _ := hv 7 (by decide)
   have q8 : vs 8 = _ := hv 8 (by decide)
   have q9 : vs 9 = _ := hv 9 (by decide)
   have q10 : vs 10 = _ := hv 10 (by decide)
   have q11 : vs 11 = _ := hv 11 (by decide)
   have q12 : vs 12 = _ := hv 12 (by decide)
   have q13 : vs 13 = _ := hv 13 (by decide)
   have q14 : vs 14 = _ := hv 14 (by decide)
   have q15 : vs 15 = _ := hv 15 (by decide)
   have q16 : vs 16 = _ := hv 16 (by decide)
   have q17 : vs 17 = _ := hv 17 (by decide)
   have q18 : vs 18 = _ := hv 18 (by decide)
   have q19 : vs 19 = _ := hv 19 (by decide)
   have q20 : vs 20 = _ := hv 20 (by decide)
   have q21 : vs 21 = _ := hv 21 (by decide)
   have q22 : vs 22 = _ := hv 22 (by decide)
   have q23 : vs 23 = _ := hv 23 (by decide)
   have q24 : vs 24 = _ := hv 24 (by decide)
   have q26 : vs 26 = _ := hv 26 (by decide)
   have S2 := Lib.hid hS
   simp only [putL, Act.put, Nat.zero_add, Nat.reduceAdd, List.setIfInBounds_toArray, List.set_cons_succ, List.set_cons_zero, q0, q1, q2, q3, q4, q5, q6, q7, q8, q9, q10, q11, q12, q13, q14, q15, q16, q17, q18, q19, q20, q21, q22, q23, q24, q26]
   clear hS hv q0 q1 q2 q3 q4 q5 q6 q7 q8 q9 q10 q11 q12 q13 q14 q15 q16 q17 q18 q19 q20 q21 q22 q23 q24 q26
   clear S4
   have SF := S2
   clear S2
   go_wp2_with fail
   refine bodyPost_ret (results_ct Tryd.results31 _ _ b8 _ _ rfl (SF.out.box (k := 0) rfl) Tryd.underlying48 rfl pcursor_size) rfl ?_
   exact ⟨HIN.out, rfl, HR.out, HV.out, rfl, SF.out.tail.tail.tail⟩
set_option maxRecDepth 100000 in
set_option maxHeartbeats 8000000 in
theorem does16_0r (hT : Tabs w0) (hS : Objs w0 w (.grid p 58 cols L :: .grid p2 33 cols L :: rest)) (hc : 0 < cols) (hcm : cols ≤ 1000) (hL : 0 < L.length) (hLm : L.length ≤ 1000) (hR : Rect cols L) (hV : AllV L) (hin : inG i j pend L.length cols = true) (hw : wOf r = 1 ∨ wOf r = 2) (hq : q.ok = true) (hwr : wrapB cols j pend auto (wOf r) = true) :
  Calls Tryd.prog 31 #[.pointer (some ⟨p, 0, none⟩), .pointer (some ⟨p2, 0, none⟩), .agg #[.int .i64 ↑i, .int .i64 ↑j, .bool pend], .agg (av16 ⟨0, n, r, q, auto, ins⟩)] w (Does16 w0 p p2 cols L rest i j pend L) := by
 have S0 := Lib.hid hS
 have HT := Lib.hid hT
 have HIN := Lib.hid hin
 have HR := Lib.hid hR
 have HV := Lib.hid hV
 have hing := ingrid_iff.1 hin
 have hi : i < L.length := by omega
 have hj : j < cols := by omega
 obtain ⟨nw, hnw⟩ : ∃ nw, wOf r = nw := ⟨_, rfl⟩
 have HQ := Lib.hid hq
 have H1 := Lib.hid (show 1 ≤ wOf r by omega)
 have HWF := Lib.hid hwr
 clear hq hwr
 clear hS hT hin hR hV hing
 have hwc := hw
 rcases hw with hw | hw
 all_goals
  rw [hw] at hnw
  subst hnw
  have HW := Lib.hid hw
  clear hw hwc
  go_enter Tryd.func31, Tryd.ntmps31
  go_upto_region 1 with (fail)
  refine at_objsC (S0.out.alloc3 (c1 := #[.int .i64 ↑i, .int .i64 ↑j, .bool pend]) (t1 := 48) (c2 := av16 ⟨0, n, r, q, auto, ins⟩) (t2 := 56) (c3 := #[.int .i64 0, .int .i64 0, .bool false]) (t3 := 48)) (fun W hW => ?_)
  generalize w.heap.size + 1 + 1 = b8 at hW ⊢
  generalize w.heap.size + 1 = b7 at hW ⊢
  generalize w.heap.size = b6 at hW ⊢
  have S1 := Lib.hid hW
  clear hW S0
  obtain ⟨hx7, hf7, hz7, hr7, hp7⟩ := (S1.out.box (k := 1) rfl).act16
  go_wp2_with fail
  clear hx7 hf7 hz7 hr7 hp7
  refine (width_is HW.out _ (S1.out.tabs HT.out)).mono ?_
  rintro e w1 ⟨rfl, hb⟩
  have S2 := Lib.hid (S1.out.bel hb)
  clear hb S1
  obtain ⟨hx8, hf8, hz8⟩ := (S2.out.box (k := 0) rfl).facts
  obtain ⟨hx7, hf7, hz7, hr7, hp7⟩ := (S2.out.box (k := 1) rfl).act16
  obtain ⟨hx6, hf6, hz6⟩ := (S2.out.box (k := 2) rfl).facts
  go_wp2_with fail
  clear hx8 hf8 hz8 hx7 hf7 hz7 hr7 hp7 hx6 hf6 hz6
  refine (show Calls Tryd.prog 36 #[.agg (pv q)] _ _ from (by have hcon := l16valid_any q HT.out S2.out; rw [HQ.out] at hcon; exact hcon)).mono ?_
  rintro e w2 ⟨rfl, hS⟩
  have S4 := Lib.hid hS
  clear hS S2
  obtain ⟨hx8, hf8, hz8⟩ := (S4.out.box (k := 0) rfl).facts
  obtain ⟨hx7, hf7, hz7, hr7, hp7⟩ := (S4.out.box (k := 1) rfl).act16
  obtain ⟨hx6, hf6, hz6⟩ := (S4.out.box (k := 2) rfl).facts
  go_wp2_with fail
  clear hx8 hf8 hz8 hx7 hf7 hz7 hr7 hp7 hx6 hf6 hz6
  refine (show Calls Tryd.prog 65 #[.pointer (some ⟨p2, 0, none⟩), .agg #[.int .i64 ↑i, .int .i64 ↑j, .bool pend], .int .i64 _, .bool auto] _ _ from (by have hcon := r16Wraps_any ↑i ↑j pend auto (wOf r) S4.out (k := 4) rfl hc hcm; rw [HWF.out, HW.out] at hcon; exact hcon)).mono ?_
  rintro e w3 ⟨rfl, hS⟩
  have S5 := Lib.hid hS
  clear hS S4
  obtain ⟨hx8, hf8, hz8⟩ := (S5.out.box (k := 0) rfl).facts
  obtain ⟨hx7, hf7, hz7, hr7, hp7⟩ := (S5.out.box (k := 1) rfl).act16
  obtain ⟨hx6, hf6, hz6⟩ := (S5.out.box (k := 2) rfl).facts
  go_wp2_with fail
  clear hx8 hf8 hz8 hx7 hf7 hz7 hr7 hp7 hx6 hf6 hz6
  refine (show Calls Tryd.prog 28 #[.pointer (some ⟨p, 0, none⟩), .agg #[.int .i64 ↑i, .int .i64 ↑j, .bool pend], .int .i32 r, .bool auto, .bool true, .int .i64 0] _ _ from (by have hcon := wraps_yes HT.out S5.out (k := 3) rfl hc hcm hL HIN.out H1.out (auto := auto); rw [HWF.out] at hcon; exact hcon)).mono ?_
  rintro e w4 ⟨rfl, hS⟩
  have S6 := Lib.hid hS
  clear hS S5
  go_upto_region 11 with (fail)
  refine wp_region_stage (w0 := w0) (os := rest) (by kernel_rfl) (by kernel_rfl) (by kernel_rfl) [(0, 13, [], fun vs => .box b8 48 #[.int .i64 ↑i, .int .i64 ↑j, .bool pend])] [[2], [], [2], [], [1], [], [1], [], [1], [], [1], [], [3], [0], []] [.box b8 48 #[.int .i64 0, .int .i64 0, .bool false], .box b7 56 (av16 ⟨0, n, r, q, auto, ins⟩), .box b6 48 #[.int .i64 ↑i, .int .i64 ↑j, .bool pend], .grid p 58 cols L, .grid p2 33 cols L] (fun opn u => match opn with | 0 => u = .agg #[.int .i64 ↑i, .int .i64 ↑j, .bool pend] | 1 => u = pt p 0 | 2 => u = .agg #[.int .i64 ↑i, .int .i64 ↑j, .bool pend] | 3 => u = pt b7 2 | 4 => u = .int .i32 r | 5 => u = pt b7 3 | 6 => u = .agg (pv q) | 7 => u = pt b7 14 | 8 => u = .bool auto | 9 => u = pt b7 15 | 10 => u = .bool ins | 11 => u = .agg #[.int .i64 0, .int .i64 0, .bool false] | 12 => u = .bool true | 13 => True | 14 => u = .bool true | _ => True) (fun vs => [.box b8 48 #[.int .i64 ↑i, .int .i64 ↑j, .bool pend], .box b7 56 (av16 ⟨0, n, r, q, auto, ins⟩), .box b6 48 #[.int .i64 ↑i, .int .i64 ↑j, .bool pend], .grid p 58 cols L, .grid p2 33 cols L]) (by kernel_rfl) (fun vs => by rfl) S6.out ?_ ?_
  ·apply sc
   ·intro a w' vs σ hS hl hs hk
    have f6 : a.tmps[6]?.getD undef = .pointer (some ⟨b6, 0, none⟩) := sof hk
    have hx := (hS.box (sg (hs 2 (by decide)))).cell
    exact rp (.agg #[.int .i64 ↑i, .int .i64 ↑j, .bool pend]) (by simp [execOp, Act.eval, f6, go_sem, hx]) hl hs hS
   apply sc
   ·intro a w' vs σ hS hl hs hk
    have f0 : a.tmps[0]?.getD undef = .pointer (some ⟨p, 0, none⟩) := sof hk
    exact rp (pt p 0) (by simp [execOp, Act.eval, f0, go_sem]) hl hs hS
   apply sc
   ·intro a w' vs σ hS hl hs hk
    have f6 : a.tmps[6]?.getD undef = .pointer (some ⟨b6, 0, none⟩) := sof hk
    have hx := (hS.box (sg (hs 2 (by decide)))).cell
    exact rp (.agg #[.int .i64 ↑i, .int .i64 ↑j, .bool pend]) (by simp [execOp, Act.eval, f6, go_sem, hx]) hl hs hS
   apply sc
   ·intro a w' vs σ hS hl hs hk
    have f7 : a.tmps[7]?.getD undef = .pointer (some ⟨b7, 0, none⟩) := sof hk
    exact rp (pt b7 2) (by simp [execOp, Act.eval, f7, go_sem]) hl hs hS
   apply sc
   ·intro a w' vs σ hS hl hs hk
    have f89 : a.tmps[89]?.getD undef = .pointer (some ⟨b7, 2, none⟩) := sf hk 3
    have hx := (hS.box (sg (hs 1 (by decide)))).cell
    exact rp (.int .i32 r) (by simp [execOp, Act.eval, f89, go_sem, hx]) hl hs hS
   apply sc
   ·intro a w' vs σ hS hl hs hk
    have f7 : a.tmps[7]?.getD undef = .pointer (some ⟨b7, 0, none⟩) := sof hk
    exact rp (pt b7 3) (by simp [execOp, Act.eval, f7, go_sem]) hl hs hS
   apply sc
   ·intro a w' vs σ hS hl hs hk
    have f91 : a.tmps[91]?.getD undef = .pointer (some ⟨b7, 3, none⟩) := sf hk 5
    have hx := (hS.box (sg (hs 1 (by decide)))).act16.2.2.2.2
    exact rp (.agg (pv q)) (by simp [execOp, Act.eval, f91, go_sem, hx]) hl hs hS
   apply sc
   ·intro a w' vs σ hS hl hs hk
    have f7 : a.tmps[7]?.getD undef = .pointer (some ⟨b7, 0, none⟩) := sof hk
    exact rp (pt b7 14) (by simp [execOp, Act.eval, f7, go_sem]) hl hs hS
   apply sc
   ·intro a w' vs σ hS hl hs hk
    have f93 : a.tmps[93]?.getD undef = .pointer (some ⟨b7, 14, none⟩) := sf hk 7
    have hx := (hS.box (sg (hs 1 (by decide)))).cell
    exact rp (.bool auto) (by simp [execOp, Act.eval, f93, go_sem, hx]) hl hs hS
   apply sc
   ·intro a w' vs σ hS hl hs hk
    have f7 : a.tmps[7]?.getD undef = .pointer (some ⟨b7, 0, none⟩) := sof hk
    exact rp (pt b7 15) (by simp [execOp, Act.eval, f7, go_sem]) hl hs hS
   apply sc
   ·intro a w' vs σ hS hl hs hk
    have f95 : a.tmps[95]?.getD undef = .pointer (some ⟨b7, 15, none⟩) := sf hk 9
    have hx := (hS.box (sg (hs 1 (by decide)))).cell
    exact rp (.bool ins) (by simp [execOp, Act.eval, f95, go_sem, hx]) hl hs hS
   apply sc
   ·intro a w' vs σ hS hl hs hk
    exact rp (.agg #[.int .i64 0, .int .i64 0, .bool false]) (by simp [execOp, Act.eval, go_sem]) hl hs hS
   apply sc
   ·intro a w' vs σ hS hl hs hk
    have e87 : a.tmps.getD 87 undef = .pointer (some ⟨p, 0, none⟩) := sv hk 1
    have e88 : a.tmps.getD 88 undef = .agg #[.int .i64 ↑i, .int .i64 ↑j, .bool pend] := sv hk 2
    have e90 : a.tmps.getD 90 undef = .int .i32 r := sv hk 4
    have e92 : a.tmps.getD 92 undef = .agg (pv q) := sv hk 6
    have e94 : a.tmps.getD 94 undef = .bool auto := sv hk 8
    have e96 : a.tmps.getD 96 undef = .bool ins := sv hk 10
    have e97 : a.tmps.getD 97 undef = .agg #[.int .i64 0, .int .i64 0, .bool false] := sv hk 11
    exact ro_call (f := 27) (wanted_none rfl) rfl (by simp only [List.map_toArray, List.map_cons, List.map_nil, Act.eval, e87, e88, e90, e92, e94, e96, e97] <;> rfl) (fun _ _ => by kernel_rfl) ((prints_wrap HT.out hS (k := 3) (sg (hs 3 (by decide))) hc hcm hL HIN.out H1.out HQ.out HWF.out).mono fun e w2 ⟨h1, h2⟩ => ⟨_, h1, sp_same (by kernel_rfl) hl hs h2 rfl, trivial⟩)
   apply sc
   ·intro a w' vs σ hS hl hs hk
    have f8 : a.tmps[8]?.getD undef = .pointer (some ⟨b8, 0, none⟩) := sof hk
    have f86 : a.tmps[86]?.getD undef = .agg #[.int .i64 ↑i, .int .i64 ↑j, .bool pend] := sf hk 0
    have h1 : σ[0]? = some (.box b8 48 #[.int .i64 0, .int .i64 0, .bool false]) := hs 0 (by decide)
    obtain ⟨hx, hf, hz⟩ := (hS.box (sg h1)).facts
    exact rstep_store (w2 := ((w'.setCell ⟨b8, 0, none⟩ (.int .i64 ↑i)).setCell ⟨b8, 1, none⟩ (.int .i64 ↑j)).setCell ⟨b8, 2, none⟩ (.bool pend)) (wanted_none rfl) rfl (by simp [execOp, Act.eval, f8, f86, hx, hf, hz, go_sem]) (sp_set 0 (.box b8 48 #[.int .i64 ↑i, .int .i64 ↑j, .bool pend]) (by kernel_rfl) (by simp) (by decide) hl hs (by rfl) (hS.setCur 0 (sg h1)) trivial) trivial
   apply sc
   ·intro a w' vs σ hS hl hs hk
    have f98 : a.tmps[98]?.getD undef = .bool true := sf hk 12
    exact rp (.bool true) (by simp [execOp, Act.eval, f98, go_sem]) hl hs hS
   exact SSteps.nil
  ·intro vs w' hS hv
   have q0 : vs 0 = _ := hv 0 (by decide)
   have q1 : vs 1 = _ := hv 1 (by decide)
   have q2 : vs 2 = _ := hv 2 (by decide)
   have q3 : vs 3 = _ := hv 3 (by decide)
   have q4 : vs 4 = _ := hv 4 (by decide)
   have q5 : vs 5 = _ := hv 5 (by decide)
   have q6 : vs 6 = _ := hv 6 (by decide)
   have q7 : vs 7 = _ := hv 7 (by decide)
   have q8 : vs 8 = _ := hv 8 (by decide)
   have q9 : vs 9 = _ := hv 9 (by decide)
   have q10 : vs 10 = _ := hv 10 (by decide)
   have q11 : vs 11 = _ := hv 11 (by decide)
   have q12 : vs 12 = _ := hv 12 (by decide)
   have q14 : vs 14 = _ := hv 14 (by decide)
   have S2 := Lib.hid hS
   simp only [putL, Act.put, Nat.zero_add, Nat.reduceAdd, List.setIfInBounds_toArray, List.set_cons_succ, List.set_cons_zero, q0, q1, q2, q3, q4, q5, q6, q7, q8, q9, q10, q11, q12, q14]
   clear hS hv q0 q1 q2 q3 q4 q5 q6 q7 q8 q9 q10 q11 q12 q14
   clear S6
   have SF := S2
   clear S2
   go_wp2_with fail
   refine bodyPost_ret (results_ct Tryd.results31 _ _ b8 _ _ rfl (SF.out.box (k := 0) rfl) Tryd.underlying48 rfl pcursor_size) rfl ?_
   exact ⟨HIN.out, rfl, HR.out, HV.out, rfl, SF.out.tail.tail.tail⟩
set_option maxRecDepth 100000 in
set_option maxHeartbeats 8000000 in
theorem does16_0y (hT : Tabs w0) (hS : Objs w0 w (.grid p 58 cols L :: .grid p2 33 cols L :: rest)) (hc : 0 < cols) (hcm : cols ≤ 1000) (hL : 0 < L.length) (hLm : L.length ≤ 1000) (hR : Rect cols L) (hV : AllV L) (hin : inG i j pend L.length cols = true) (hw : wOf r = 1 ∨ wOf r = 2) (hq : q.ok = true) (hwr : wrapB cols j pend auto (wOf r) = false) :
  Calls Tryd.prog 31 #[.pointer (some ⟨p, 0, none⟩), .pointer (some ⟨p2, 0, none⟩), .agg #[.int .i64 ↑i, .int .i64 ↑j, .bool pend], .agg (av16 ⟨0, n, r, q, auto, ins⟩)] w (Does16 w0 p p2 cols L rest i (prCol cols (prAt cols j (prCell cols ⟨r, 0, 0, 0, wOf r, q⟩)) (prCell cols ⟨r, 0, 0, 0, wOf r, q⟩)) (prPend cols (prAt cols j (prCell cols ⟨r, 0, 0, 0, wOf r, q⟩)) (prCell cols ⟨r, 0, 0, 0, wOf r, q⟩) auto) (printL i j cols ⟨r, 0, 0, 0, wOf r, q⟩ ins L)) := by
 have S0 := Lib.hid hS
 have HT := Lib.hid hT
 have HIN := Lib.hid hin
 have HR := Lib.hid hR
 have HV := Lib.hid hV
 have hing := ingrid_iff.1 hin
 have hi : i < L.length := by omega
 have hj : j < cols := by omega
 obtain ⟨nw, hnw⟩ : ∃ nw, wOf r = nw := ⟨_, rfl⟩
 have HQ := Lib.hid hq
 have H1 := Lib.hid (show 1 ≤ wOf r by omega)
 have HWF := Lib.hid hwr
 obtain ⟨x0, hx0⟩ : ∃ x0 : Cell, x0 = ⟨r, 0, 0, 0, wOf r, q⟩ := ⟨_, rfl⟩
 have HX00 := Lib.hid hx0
 have HX12 := Lib.hid (show x0.width = 1 ∨ x0.width = 2 by rw [hx0]; exact hw)
 have HXK := Lib.hid (show x0.ok = true by rw [hx0]; exact of_ok H1.out hq)
 have HXQ := Lib.hid (show x0.pen.ok = true by rw [hx0]; exact hq)
 obtain ⟨l, HOF, HX0, HLN⟩ : ∃ l, Hid (ofCells r q = (l, 0)) ∧ Hid (l[0]? = some x0) ∧ Hid ((l.length : Int) = wOf r) := by
  rw [hx0]
  unfold ofCells
  rw [if_neg (by rw [hq]; simp; omega)]
  by_cases h2 : wOf r = 2
  ·rw [if_pos h2, h2]; exact ⟨_, Lib.hid rfl, Lib.hid rfl, Lib.hid rfl⟩
  ·have h1 : wOf r = 1 := by omega
   rw [if_neg h2, h1]; exact ⟨_, Lib.hid rfl, Lib.hid rfl, Lib.hid rfl⟩
 obtain ⟨LN, hLN⟩ : ∃ LN, printL i j cols x0 ins L = LN := ⟨_, rfl⟩
 obtain ⟨nc, hnc⟩ : ∃ nc, prCol cols (prAt cols j (prCell cols x0)) (prCell cols x0) = nc := ⟨_, rfl⟩
 obtain ⟨np, hnp⟩ : ∃ np, prPend cols (prAt cols j (prCell cols x0)) (prCell cols x0) auto = np := ⟨_, rfl⟩
 have HNL := Lib.hid hLN
 have HNC := Lib.hid hnc
 have HNP := Lib.hid hnp
 have hkeep := printL_keeps (i := i) (ins := ins) hR hV hc hj HX12.out HXK.out
 rw [hLN] at hkeep
 obtain ⟨hk1, hk2, hk3⟩ := hkeep
 have HK1 := Lib.hid hk1
 have HK2 := Lib.hid hk2
 have HK3 := Lib.hid hk3
 have HNI := Lib.hid (show inG i nc np L.length cols = true from ingrid_iff.2 ⟨by omega, by rw [← hnc]; exact ⟨by omega, by have := prCol_lt (j := prAt cols j (prCell cols x0)) (x := prCell cols x0) hc; omega⟩, fun h => by
  rw [← hnp] at h
  have := prPend_at h
  rw [← hnc, this]; omega⟩)
 rw [← hx0, hnc, hnp, hLN]
 clear hx0 hLN hnc hnp hk1 hk2 hk3 hq hwr
 clear hS hT hin hR hV hing
 have hwc := hw
 rcases hw with hw | hw
 all_goals
  rw [hw] at hnw
  subst hnw
  have HW := Lib.hid hw
  clear hw hwc
  go_enter Tryd.func31, Tryd.ntmps31
  go_upto_region 1 with (fail)
  refine at_objsC (S0.out.alloc3 (c1 := #[.int .i64 ↑i, .int .i64 ↑j, .bool pend]) (t1 := 48) (c2 := av16 ⟨0, n, r, q, auto, ins⟩) (t2 := 56) (c3 := #[.int .i64 0, .int .i64 0, .bool false]) (t3 := 48)) (fun W hW => ?_)
  generalize w.heap.size + 1 + 1 = b8 at hW ⊢
  generalize w.heap.size + 1 = b7 at hW ⊢
  generalize w.heap.size = b6 at hW ⊢
  have S1 := Lib.hid hW
  clear hW S0
  obtain ⟨hx7, hf7, hz7, hr7, hp7⟩ := (S1.out.box (k := 1) rfl).act16
  go_wp2_with fail
  clear hx7 hf7 hz7 hr7 hp7
  refine (width_is HW.out _ (S1.out.tabs HT.out)).mono ?_
  rintro e w1 ⟨rfl, hb⟩
  have S2 := Lib.hid (S1.out.bel hb)
  clear hb S1
  obtain ⟨hx8, hf8, hz8⟩ := (S2.out.box (k := 0) rfl).facts
  obtain ⟨hx7, hf7, hz7, hr7, hp7⟩ := (S2.out.box (k := 1) rfl).act16
  obtain ⟨hx6, hf6, hz6⟩ := (S2.out.box (k := 2) rfl).facts
  go_wp2_with fail
  clear hx8 hf8 hz8 hx7 hf7 hz7 hr7 hp7 hx6 hf6 hz6
  refine (show Calls Tryd.prog 36 #[.agg (pv q)] _ _ from (by have hcon := l16valid_any q HT.out S2.out; rw [HQ.out] at hcon; exact hcon)).mono ?_
  rintro e w2 ⟨rfl, hS⟩
  have S4 := Lib.hid hS
  clear hS S2
  obtain ⟨hx8, hf8, hz8⟩ := (S4.out.box (k := 0) rfl).facts
  obtain ⟨hx7, hf7, hz7, hr7, hp7⟩ := (S4.out.box (k := 1) rfl).act16
  obtain ⟨hx6, hf6, hz6⟩ := (S4.out.box (k := 2) rfl).facts
  go_wp2_with fail
  clear hx8 hf8 hz8 hx7 hf7 hz7 hr7 hp7 hx6 hf6 hz6
  refine (show Calls Tryd.prog 65 #[.pointer (some ⟨p2, 0, none⟩), .agg #[.int .i64 ↑i, .int .i64 ↑j, .bool pend], .int .i64 _, .bool auto] _ _ from (by have hcon := r16Wraps_any ↑i ↑j pend auto (wOf r) S4.out (k := 4) rfl hc hcm; rw [HWF.out, HW.out] at hcon; exact hcon)).mono ?_
  rintro e w3 ⟨rfl, hS⟩
  have S5 := Lib.hid hS
  clear hS S4
  obtain ⟨hx8, hf8, hz8⟩ := (S5.out.box (k := 0) rfl).facts
  obtain ⟨hx7, hf7, hz7, hr7, hp7⟩ := (S5.out.box (k := 1) rfl).act16
  obtain ⟨hx6, hf6, hz6⟩ := (S5.out.box (k := 2) rfl).facts
  go_wp2_with fail
  clear hx8 hf8 hz8 hx7 hf7 hz7 hr7 hp7 hx6 hf6 hz6
  refine (show Calls Tryd.prog 28 #[.pointer (some ⟨p, 0, none⟩), .agg #[.int .i64 ↑i, .int .i64 ↑j, .bool pend], .int .i32 r, .bool auto, .bool false, .int .i64 0] _ _ from (by have hcon := wraps_yes HT.out S5.out (k := 3) rfl hc hcm hL HIN.out H1.out (auto := auto); rw [HWF.out] at hcon; exact hcon)).mono ?_
  rintro e w4 ⟨rfl, hS⟩
  have S6 := Lib.hid hS
  clear hS S5
  obtain ⟨hx8, hf8, hz8⟩ := (S6.out.box (k := 0) rfl).facts
  obtain ⟨hx7, hf7, hz7, hr7, hp7⟩ := (S6.out.box (k := 1) rfl).act16
  obtain ⟨hx6, hf6, hz6⟩ := (S6.out.box (k := 2) rfl).facts
  go_wp2_with fail
  clear hx8 hf8 hz8 hx7 hf7 hz7 hr7 hp7 hx6 hf6 hz6
  have hcon := cellOf_any r q _ (S6.out.tabs HT.out)
  rw [HOF.out] at hcon
  refine hcon.mono ?_
  rintro e w6 ⟨vl, rfl, ho, hb⟩
  have hS := S6.out.newCells hb ho
  obtain ⟨gl, cl, rfl, -, -, -⟩ := hS.ownAt (k := 0) (j := 0) rfl HX0.out
  have S7 := Lib.hid hS
  have hl0 : 0 < l.length := (List.getElem?_eq_some_iff.1 HX0.out).1
  clear hS ho hb hcon S6
  have hl7 := HLN.out
  rw [HW.out] at hl7
  have hl8 := bne_no hl7
  clear hl7
  go_upto_region 15 with (fail)
  clear hl8
  refine wp_region_stage (w0 := w0) (os := rest) (by kernel_rfl) (by kernel_rfl) (by kernel_rfl) [(6, 9, [], fun vs => .grid p2 33 cols LN), (0, 10, [10], fun vs => .box (blkOf (vs 10)) 48 #[.int .i64 0, .int .i64 0, .bool false]), (0, 11, [10], fun vs => .box (blkOf (vs 10)) 48 #[.int .i64 ↑i, .int .i64 ↑nc, .bool np])] [[], [4], [], [], [1], [], [3], [], [3], [6], [0], [0]] [.none, .cells (.slice (some ⟨gl, 0, none⟩) l.length cl) l, .box b8 48 #[.int .i64 0, .int .i64 0, .bool false], .box b7 56 (av16 ⟨0, n, r, q, auto, ins⟩), .box b6 48 #[.int .i64 ↑i, .int .i64 ↑j, .bool pend], .grid p 58 cols L, .grid p2 33 cols L] (fun opn u => match opn with | 0 => u = pt p2 0 | 1 => u = .agg #[.int .i64 ↑i, .int .i64 ↑j, .bool pend] | 2 => u = .slice (some ⟨gl, 0, none⟩) l.length cl | 3 => u = pt gl 0 | 4 => u = .agg (cv x0) | 5 => u = pt b7 14 | 6 => u = .bool auto | 7 => u = pt b7 15 | 8 => u = .bool ins | 9 => u = .agg #[.int .i64 ↑i, .int .i64 ↑nc, .bool np] | 10 => ∃ g, u = pt g 0 | 11 => True | _ => True) (fun vs => [.box (blkOf (vs 10)) 48 #[.int .i64 ↑i, .int .i64 ↑nc, .bool np], .cells (.slice (some ⟨gl, 0, none⟩) l.length cl) l, .box b8 48 #[.int .i64 0, .int .i64 0, .bool false], .box b7 56 (av16 ⟨0, n, r, q, auto, ins⟩), .box b6 48 #[.int .i64 ↑i, .int .i64 ↑j, .bool pend], .grid p 58 cols L, .grid p2 33 cols LN]) (by kernel_rfl) (fun vs => by rfl) S7.out.pad ?_ ?_
  ·apply sc
   ·intro a w' vs σ hS hl hs hk
    have f1 : a.tmps[1]?.getD undef = .pointer (some ⟨p2, 0, none⟩) := sof hk
    exact rp (pt p2 0) (by simp [execOp, Act.eval, f1, go_sem]) hl hs hS
   apply sc
   ·intro a w' vs σ hS hl hs hk
    have f6 : a.tmps[6]?.getD undef = .pointer (some ⟨b6, 0, none⟩) := sof hk
    have hx := (hS.box (sg (hs 4 (by decide)))).cell
    exact rp (.agg #[.int .i64 ↑i, .int .i64 ↑j, .bool pend]) (by simp [execOp, Act.eval, f6, go_sem, hx]) hl hs hS
   apply sc
   ·intro a w' vs σ hS hl hs hk
    have f13 : a.tmps[13]?.getD undef = .slice (some ⟨gl, 0, none⟩) l.length cl := sof hk
    exact rp (.slice (some ⟨gl, 0, none⟩) l.length cl) (by simp [execOp, Act.eval, f13, go_sem]) hl hs hS
   apply sc
   ·intro a w' vs σ hS hl hs hk
    have f118 : a.tmps[118]?.getD undef = .slice (some ⟨gl, 0, none⟩) l.length cl := sf hk 2
    exact rp (pt gl 0) (by simp [execOp, Act.eval, f118, go_sem, hl0]) hl hs hS
   apply sc
   ·intro a w' vs σ hS hl hs hk
    have f119 : a.tmps[119]?.getD undef = .pointer (some ⟨gl, 0, none⟩) := sf hk 3
    have hx : cellAt w' gl 0 = some x0 := by have := (cells_facts hS (sg (hs 1 (by decide))) (i := 0) (c := x0) HX0.out).2.2.1; simpa using this
    exact rp (.agg (cv x0)) (by simp [execOp, Act.eval, f119, go_sem, hx]) hl hs hS
   apply sc
   ·intro a w' vs σ hS hl hs hk
    have f7 : a.tmps[7]?.getD undef = .pointer (some ⟨b7, 0, none⟩) := sof hk
    exact rp (pt b7 14) (by simp [execOp, Act.eval, f7, go_sem]) hl hs hS
   apply sc
   ·intro a w' vs σ hS hl hs hk
    have f121 : a.tmps[121]?.getD undef = .pointer (some ⟨b7, 14, none⟩) := sf hk 5
    have hx := (hS.box (sg (hs 3 (by decide)))).cell
    exact rp (.bool auto) (by simp [execOp, Act.eval, f121, go_sem, hx]) hl hs hS
   apply sc
   ·intro a w' vs σ hS hl hs hk
    have f7 : a.tmps[7]?.getD undef = .pointer (some ⟨b7, 0, none⟩) := sof hk
    exact rp (pt b7 15) (by simp [execOp, Act.eval, f7, go_sem]) hl hs hS
   apply sc
   ·intro a w' vs σ hS hl hs hk
    have f123 : a.tmps[123]?.getD undef = .pointer (some ⟨b7, 15, none⟩) := sf hk 7
    have hx := (hS.box (sg (hs 3 (by decide)))).cell
    exact rp (.bool ins) (by simp [execOp, Act.eval, f123, go_sem, hx]) hl hs hS
   apply sc
   ·intro a w' vs σ hS hl hs hk
    have e116 : a.tmps.getD 116 undef = .pointer (some ⟨p2, 0, none⟩) := sv hk 0
    have e117 : a.tmps.getD 117 undef = .agg #[.int .i64 ↑i, .int .i64 ↑j, .bool pend] := sv hk 1
    have e120 : a.tmps.getD 120 undef = .agg (cv x0) := sv hk 4
    have e122 : a.tmps.getD 122 undef = .bool auto := sv hk 6
    have e124 : a.tmps.getD 124 undef = .bool ins := sv hk 8
    have hcon := r16Print_yes pend auto ins x0 hS (k := 6) (sg (hs 6 (by decide))) hc hcm HR.out hi hj HX12.out HXK.out HXQ.out
    rw [HNC.out, HNP.out, HNL.out] at hcon
    exact ro_call (f := 67) (wanted_none rfl) rfl (by simp only [List.map_toArray, List.map_cons, List.map_nil, Act.eval, e116, e117, e120, e122, e124] <;> rfl) (fun _ _ => by kernel_rfl) ((hcon).mono fun e w2 ⟨h1, h2⟩ => ⟨_, h1, sp_set 6 (.grid p2 33 cols LN) (by kernel_rfl) (by simp) (by decide) hl hs (by rfl) h2 rfl, trivial⟩)
   apply sc
   ·intro a w' vs σ hS hl hs hk
    have h1 : σ[0]? = some .none := hs 0 (by decide)
    exact rs_run (v' := .pointer (some ⟨w'.heap.size, 0, none⟩)) (w' := w'.alloc (.cells #[.int .i64 0, .int .i64 0, .bool false] 48)) (wanted_none rfl) (by first | (simp [execOp, go_sem]; done) | (simp [execOp, go_sem]; rfl) | rfl) (sp_set 0 (.box w'.heap.size 48 #[.int .i64 0, .int .i64 0, .bool false]) (by kernel_rfl) (by simp) (by decide) hl hs (by rfl) (hS.alloc1.place (sg h1)) ⟨_, rfl⟩)
   apply sc
   ·intro a w' vs σ hS hl hs hk
    have e15 : a.tmps.getD 15 undef = vs 10 := sk_val hk 10 (by kernel_rfl) rfl rfl
    have p15 : (fun u : Value => ∃ g, u = .pointer (some ⟨g, 0, none⟩)) (vs 10) := (hk.1 10 (by kernel_rfl)).1
    have f15 := gd e15
    have f125 : a.tmps[125]?.getD undef = .agg #[.int .i64 ↑i, .int .i64 ↑nc, .bool np] := sf hk 9
    obtain ⟨g9, q9⟩ := p15
    have h1 : σ[0]? = some (.box (blkOf (vs 10)) 48 #[.int .i64 0, .int .i64 0, .bool false]) := hs 0 (by decide)
    rw [q9, show blkOf (.pointer (some ⟨g9, 0, none⟩)) = g9 from rfl] at h1
    obtain ⟨hx, hf, hz⟩ := (hS.box (sg h1)).facts
    exact rstep_store (w2 := ((w'.setCell ⟨g9, 0, none⟩ (.int .i64 ↑i)).setCell ⟨g9, 1, none⟩ (.int .i64 ↑nc)).setCell ⟨g9, 2, none⟩ (.bool np)) (wanted_none rfl) rfl (by simp [execOp, Act.eval, e15, f15, f125, q9, hx, hf, hz, go_sem]) (sp_set 0 (.box g9 48 #[.int .i64 ↑i, .int .i64 ↑nc, .bool np]) (by kernel_rfl) (by simp) (by decide) hl hs (by show Ob.box (blkOf (vs 10)) 48 #[.int .i64 ↑i, .int .i64 ↑nc, .bool np] = _; rw [q9]; rfl) (hS.setCur 0 (sg h1)) trivial) trivial
   exact SSteps.nil
  ·intro vs w' hS hv
   have q0 : vs 0 = _ := hv 0 (by decide)
   have q1 : vs 1 = _ := hv 1 (by decide)
   have q2 : vs 2 = _ := hv 2 (by decide)
   have q3 : vs 3 = _ := hv 3 (by decide)
   have q4 : vs 4 = _ := hv 4 (by decide)
   have q5 : vs 5 = _ := hv 5 (by decide)
   have q6 : vs 6 = _ := hv 6 (by decide)
   have q7 : vs 7 = _ := hv 7 (by decide)
   have q8 : vs 8 = _ := hv 8 (by decide)
   have q9 : vs 9 = _ := hv 9 (by decide)
   obtain ⟨b15, q10⟩ := (show ∃ g, vs 10 = .pointer (some ⟨g, 0, none⟩) from hv 10 (by decide))
   rw [q10, show blkOf (.pointer (some ⟨b15, 0, none⟩)) = b15 from rfl] at hS
   have S2 := Lib.hid hS
   simp only [putL, Act.put, Nat.zero_add, Nat.reduceAdd, List.setIfInBounds_toArray, List.set_cons_succ, List.set_cons_zero, q0, q1, q2, q3, q4, q5, q6, q7, q8, q9]
   clear hS hv q0 q1 q2 q3 q4 q5 q6 q7 q8 q9
   simp only [q10]
   have S9 := S2
   clear S2 S7 q10
   go_upto_region 16 with (fail)
   refine wp_region_stage (w0 := w0) (os := rest) (by kernel_rfl) (by kernel_rfl) (by kernel_rfl) [(5, 12, [], fun vs => .grid p 58 cols LN), (2, 13, [], fun vs => .box b8 48 #[.int .i64 ↑i, .int .i64 ↑nc, .bool np])] [[0], [], [4], [], [3], [], [3], [], [3], [], [3], [0], [5], [2], []] [.box b15 48 #[.int .i64 ↑i, .int .i64 ↑nc, .bool np], .cells (.slice (some ⟨gl, 0, none⟩) l.length cl) l, .box b8 48 #[.int .i64 0, .int .i64 0, .bool false], .box b7 56 (av16 ⟨0, n, r, q, auto, ins⟩), .box b6 48 #[.int .i64 ↑i, .int .i64 ↑j, .bool pend], .grid p 58 cols L, .grid p2 33 cols LN] (fun opn u => match opn with | 0 => u = .agg #[.int .i64 ↑i, .int .i64 ↑nc, .bool np] | 1 => u = pt p 0 | 2 => u = .agg #[.int .i64 ↑i, .int .i64 ↑j, .bool pend] | 3 => u = pt b7 2 | 4 => u = .int .i32 r | 5 => u = pt b7 3 | 6 => u = .agg (pv q) | 7 => u = pt b7 14 | 8 => u = .bool auto | 9 => u = pt b7 15 | 10 => u = .bool ins | 11 => u = .agg #[.int .i64 ↑i, .int .i64 ↑nc, .bool np] | 12 => u = .bool true | 13 => True | 14 => u = .bool true | _ => True) (fun vs => [.box b15 48 #[.int .i64 ↑i, .int .i64 ↑nc, .bool np], .cells (.slice (some ⟨gl, 0, none⟩) l.length cl) l, .box b8 48 #[.int .i64 ↑i, .int .i64 ↑nc, .bool np], .box b7 56 (av16 ⟨0, n, r, q, auto, ins⟩), .box b6 48 #[.int .i64 ↑i, .int .i64 ↑j, .bool pend], .grid p 58 cols LN, .grid p2 33 cols LN]) (by kernel_rfl) (fun vs => by rfl) S9.out ?_ ?_
   ·apply sc
    ·intro a w' vs σ hS hl hs hk
     have f15 : a.tmps[15]?.getD undef = .pointer (some ⟨b15, 0, none⟩) := sof hk
     have hx := (hS.box (sg (hs 0 (by decide)))).cell
     exact rp (.agg #[.int .i64 ↑i, .int .i64 ↑nc, .bool np]) (by simp [execOp, Act.eval, f15, go_sem, hx]) hl hs hS
    apply sc
    ·intro a w' vs σ hS hl hs hk
     have f0 : a.tmps[0]?.getD undef = .pointer (some ⟨p, 0, none⟩) := sof hk
     exact rp (pt p 0) (by simp [execOp, Act.eval, f0, go_sem]) hl hs hS
    apply sc
    ·intro a w' vs σ hS hl hs hk
     have f6 : a.tmps[6]?.getD undef = .pointer (some ⟨b6, 0, none⟩) := sof hk
     have hx := (hS.box (sg (hs 4 (by decide)))).cell
     exact rp (.agg #[.int .i64 ↑i, .int .i64 ↑j, .bool pend]) (by simp [execOp, Act.eval, f6, go_sem, hx]) hl hs hS
    apply sc
    ·intro a w' vs σ hS hl hs hk
     have f7 : a.tmps[7]?.getD undef = .pointer (some ⟨b7, 0, none⟩) := sof hk
     exact rp (pt b7 2) (by simp [execOp, Act.eval, f7, go_sem]) hl hs hS
    apply sc
    ·intro a w' vs σ hS hl hs hk
     have f129 : a.tmps[129]?.getD undef = .pointer (some ⟨b7, 2, none⟩) := sf hk 3
     have hx := (hS.box (sg (hs 3 (by decide)))).cell
     exact rp (.int .i32 r) (by simp [execOp, Act.eval, f129, go_sem, hx]) hl hs hS
    apply sc
    ·intro a w' vs σ hS hl hs hk
     have f7 : a.tmps[7]?.getD undef = .pointer (some ⟨b7, 0, none⟩) := sof hk
     exact rp (pt b7 3) (by simp [execOp, Act.eval, f7, go_sem]) hl hs hS
    apply sc
    ·intro a w' vs σ hS hl hs hk
     have f131 : a.tmps[131]?.getD undef = .pointer (some ⟨b7, 3, none⟩) := sf hk 5
     have hx := (hS.box (sg (hs 3 (by decide)))).act16.2.2.2.2
     exact rp (.agg (pv q)) (by simp [execOp, Act.eval, f131, go_sem, hx]) hl hs hS
    apply sc
    ·intro a w' vs σ hS hl hs hk
     have f7 : a.tmps[7]?.getD undef = .pointer (some ⟨b7, 0, none⟩) := sof hk
     exact rp (pt b7 14) (by simp [execOp, Act.eval, f7, go_sem]) hl hs hS
    apply sc
    ·intro a w' vs σ hS hl hs hk
     have f133 : a.tmps[133]?.getD undef = .pointer (some ⟨b7, 14, none⟩) := sf hk 7
     have hx := (hS.box (sg (hs 3 (by decide)))).cell
     exact rp (.bool auto) (by simp [execOp, Act.eval, f133, go_sem, hx]) hl hs hS
    apply sc
    ·intro a w' vs σ hS hl hs hk
     have f7 : a.tmps[7]?.getD undef = .pointer (some ⟨b7, 0, none⟩) := sof hk
     exact rp (pt b7 15) (by simp [execOp, Act.eval, f7, go_sem]) hl hs hS
    apply sc
    ·intro a w' vs σ hS hl hs hk
     have f135 : a.tmps[135]?.getD undef = .pointer (some ⟨b7, 15, none⟩) := sf hk 9
     have hx := (hS.box (sg (hs 3 (by decide)))).cell
     exact rp (.bool ins) (by simp [execOp, Act.eval, f135, go_sem, hx]) hl hs hS
    apply sc
    ·intro a w' vs σ hS hl hs hk
     have f15 : a.tmps[15]?.getD undef = .pointer (some ⟨b15, 0, none⟩) := sof hk
     have hx := (hS.box (sg (hs 0 (by decide)))).cell
     exact rp (.agg #[.int .i64 ↑i, .int .i64 ↑nc, .bool np]) (by simp [execOp, Act.eval, f15, go_sem, hx]) hl hs hS
    apply sc
    ·intro a w' vs σ hS hl hs hk
     have e127 : a.tmps.getD 127 undef = .pointer (some ⟨p, 0, none⟩) := sv hk 1
     have e128 : a.tmps.getD 128 undef = .agg #[.int .i64 ↑i, .int .i64 ↑j, .bool pend] := sv hk 2
     have e130 : a.tmps.getD 130 undef = .int .i32 r := sv hk 4
     have e132 : a.tmps.getD 132 undef = .agg (pv q) := sv hk 6
     have e134 : a.tmps.getD 134 undef = .bool auto := sv hk 8
     have e136 : a.tmps.getD 136 undef = .bool ins := sv hk 10
     have e137 : a.tmps.getD 137 undef = .agg #[.int .i64 ↑i, .int .i64 ↑nc, .bool np] := sv hk 11
     have hcon := prints_yes HT.out hS (k := 5) (sg (hs 5 (by decide))) hc hcm hL HR.out HIN.out H1.out HQ.out HWF.out x0 HX00.out (auto := auto) (ins := ins)
     rw [HNC.out, HNP.out, HNL.out] at hcon
     exact ro_call (f := 27) (wanted_none rfl) rfl (by simp only [List.map_toArray, List.map_cons, List.map_nil, Act.eval, e127, e128, e130, e132, e134, e136, e137] <;> rfl) (fun _ _ => by kernel_rfl) ((hcon).mono fun e w2 ⟨h1, h2⟩ => ⟨_, h1, sp_set 5 (.grid p 58 cols LN) (by kernel_rfl) (by simp) (by decide) hl hs (by rfl) h2 rfl, trivial⟩)
    apply sc
    ·intro a w' vs σ hS hl hs hk
     have f8 : a.tmps[8]?.getD undef = .pointer (some ⟨b8, 0, none⟩) := sof hk
     have f126 : a.tmps[126]?.getD undef = .agg #[.int .i64 ↑i, .int .i64 ↑nc, .bool np] := sf hk 0
     have h1 : σ[2]? = some (.box b8 48 #[.int .i64 0, .int .i64 0, .bool false]) := hs 2 (by decide)
     obtain ⟨hx, hf, hz⟩ := (hS.box (sg h1)).facts
     exact rstep_store (w2 := ((w'.setCell ⟨b8, 0, none⟩ (.int .i64 ↑i)).setCell ⟨b8, 1, none⟩ (.int .i64 ↑nc)).setCell ⟨b8, 2, none⟩ (.bool np)) (wanted_none rfl) rfl (by simp [execOp, Act.eval, f8, f126, hx, hf, hz, go_sem]) (sp_set 2 (.box b8 48 #[.int .i64 ↑i, .int .i64 ↑nc, .bool np]) (by kernel_rfl) (by simp) (by decide) hl hs (by rfl) (hS.setCur 2 (sg h1)) trivial) trivial
    apply sc
    ·intro a w' vs σ hS hl hs hk
     have f138 : a.tmps[138]?.getD undef = .bool true := sf hk 12
     exact rp (.bool true) (by simp [execOp, Act.eval, f138, go_sem]) hl hs hS
    exact SSteps.nil
   ·intro vs w' hS hv
    have q0 : vs 0 = _ := hv 0 (by decide)
    have q1 : vs 1 = _ := hv 1 (by decide)
    have q2 : vs 2 = _ := hv 2 (by decide)
    have q3 : vs 3 = _ := hv 3 (by decide)
    have q4 : vs 4 = _ := hv 4 (by decide)
    have q5 : vs 5 = _ := hv 5 (by decide)
    have q6 : vs 6 = _ := hv 6 (by decide)
    have q7 : vs 7 = _ := hv 7 (by decide)
    have q8 : vs 8 = _ := hv 8 (by decide)
    have q9 : vs 9 = _ := hv 9 (by decide)
    have q10 : vs 10 = _ := hv 10 (by decide)
    have q11 : vs 11 = _ := hv 11 (by decide)
    have q12 : vs 12 = _ := hv 12 (by decide)
    have q14 : vs 14 = _ := hv 14 (by decide)
    have S2 := Lib.hid hS
    simp only [putL, Act.put, Nat.zero_add, Nat.reduceAdd, List.setIfInBounds_toArray, List.set_cons_succ, List.set_cons_zero, q0, q1, q2, q3, q4, q5, q6, q7, q8, q9, q10, q11, q12, q14]
    clear hS hv q0 q1 q2 q3 q4 q5 q6 q7 q8 q9 q10 q11 q12 q14
    clear S9
    have SF := S2
    clear S2
    go_wp2_with fail
    refine bodyPost_ret (results_ct Tryd.results31 _ _ b8 _ _ rfl (SF.out.box (k := 2) rfl) Tryd.underlying48 rfl pcursor_size) rfl ?_
    exact ⟨HNI.out, HK1.out, HK2.out, HK3.out, rfl, SF.out.tail.tail.tail.tail.tail⟩
end
end Go.Proofs.YtppijfjigcoifaaDoor
