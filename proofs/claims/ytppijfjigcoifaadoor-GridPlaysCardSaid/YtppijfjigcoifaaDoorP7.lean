/-
  Part 7 of the texts on which the proofs of this seat stand: each part says ahead of it what it shows.
-/
import Derived.Test.YtppijfjigcoifaaDoorP6
set_option linter.unusedSimpArgs false
set_option linter.unusedVariables false
namespace Go.Proofs.YtppijfjigcoifaaDoor
open Go.RowKit

section
variable {w0 w : World} {os : List Ob} {p x cols : Nat} {L : List Ln}
set_option maxRecDepth 100000 in
set_option maxHeartbeats 8000000 in
theorem does_put_out (row : Int) (h0 : row < 0 ∨ (0 ≤ row ∧ (L.length : Int) ≤ row)) (ca cb n : Int) (y : Cell) (A : Option Addr) (c : Nat) (cs : List Cell) (soft : Bool) (q : Pen) (hT : Tabs w0) (hS : Objs w0 w (.grid p 58 cols L :: .grid x 33 cols L :: os)) (hc : 0 < cols) (hcm : cols ≤ 1000) (hR : Rect cols L) (hL : 0 < L.length) (hLm : L.length ≤ 1000) (hA : RdC w0 A c cs) (hlc : cs.length ≤ 100000) (ia : -9223372036854775808 ≤ ca ∧ ca ≤ 9223372036854775807) (ib : -9223372036854775808 ≤ cb ∧ cb ≤ 9223372036854775807) (i_n : -9223372036854775808 ≤ n ∧ n ≤ 9223372036854775807) :
  Calls Tryd.prog 43 #[.pointer (some ⟨p, 0, none⟩), .pointer (some ⟨x, 0, none⟩), .agg (av14 ⟨0, row, ca, cb, n, y, A, c, cs, soft, q⟩)] w fun e w' => e = .returned (.bool true) ∧ Objs w0 w' (.grid p 58 cols (act14N ⟨0, row, ca, cb, n, y, A, c, cs, soft, q⟩ cols L) :: .grid x 33 cols (act14N ⟨0, row, ca, cb, n, y, A, c, cs, soft, q⟩ cols L) :: os) := by
 have HT := Lib.hid hT
 have S0 := Lib.hid hS
 have HR := Lib.hid hR
 have HA := Lib.hid hA
 have HM := Lib.hid (hR.mill hcm)
 have hlm2 : L.length ≤ 100000 := by omega
 have hlm3 : L.length ≤ 1000000 := by omega
 have HIA := Lib.hid ia
 have HIB := Lib.hid ib
 have HIN := Lib.hid i_n
 clear hT hS hR hA ia ib i_n
 rcases h0 with h0 | ⟨h0, h1⟩
 all_goals
  have HE := Lib.hid (show putE row ca y cols L.length = 3 by have hh : here14 row L.length = false := decide_eq_false (by omega); unfold putE; rw [if_pos (fun h => by rw [hh] at h; exact absurd h.1 (by decide))])
  have HN := Lib.hid (show act14N ⟨0, row, ca, cb, n, y, A, c, cs, soft, q⟩ cols L = L by simp [act14N, HE.out])
  go_enter Tryd.func43, Tryd.ntmps43
  go_upto_region 1 with (fail)
  refine at_objsC S0.out.alloc1 (fun W hW => ?_)
  generalize w.heap.size = b5 at hW ⊢
  have S1 := Lib.hid hW
  clear hW S0
  obtain ⟨hx, hf, hz, hr, hp, hcl, hpc⟩ := (S1.out.box (k := 0) rfl).act14
  obtain ⟨Ax, cx, hBx, -, -⟩ := S1.out.gridRd (k := 2) rfl
  obtain ⟨hxx, hfx, hzx⟩ := hBx.facts
  clear hBx
  first | (have d1 : decide ((0 : Int) ≤ row) = false := decide_eq_false (by omega)) | (have d1 : decide ((0 : Int) ≤ row) = true := decide_eq_true (by omega))
  first | (have d2 : decide (row < (L.length : Int)) = false := decide_eq_false (by omega)) | (have d2 : decide (row < (L.length : Int)) = true := decide_eq_true (by omega))
  refine wp_region_below (by kernel_rfl) (by kernel_rfl) ?_
  repeat (go_big_quiet_step (fail))
  refine wpQuiet_nil ?_
  intro w2 hb2
  have S2 := Lib.hid (S1.out.bel hb2)
  clear hb2 S1
  clear hx hf hz hr hp hcl hpc hxx hfx hzx
  obtain ⟨hx, hf, hz, hr, hp, hcl, hpc⟩ := (S2.out.box (k := 0) rfl).act14
  obtain ⟨Ax, cx, hBx, -, -⟩ := S2.out.gridRd (k := 2) rfl
  obtain ⟨hxx, hfx, hzx⟩ := hBx.facts
  clear hBx
  go_wp2_with fail
  refine wp_region_below (by kernel_rfl) (by kernel_rfl) ?_
  repeat (go_big_quiet_step (fail))
  refine wpQuiet_nil ?_
  intro w2 hb2
  have S3 := Lib.hid (S2.out.bel hb2)
  clear hb2 S2
  clear hx hf hz hr hp hcl hpc hxx hfx hzx
  obtain ⟨hx, hf, hz, hr, hp, hcl, hpc⟩ := (S3.out.box (k := 0) rfl).act14
  obtain ⟨Ax, cx, hBx, -, -⟩ := S3.out.gridRd (k := 2) rfl
  obtain ⟨hxx, hfx, hzx⟩ := hBx.facts
  clear hBx
  go_wp2_with fail
  have hcon := PutN y HT.out S3.out (k := 1) rfl hc hcm (row := row) (col := ca) (by rw [HE.out]; decide)
  rw [HE.out] at hcon
  refine hcon.mono ?_
  rintro e w3 ⟨rfl, hS⟩
  have S4 := Lib.hid hS
  clear hS hcon S3
  clear hx hf hz hr hp hcl hpc hxx hfx hzx
  obtain ⟨hx, hf, hz, hr, hp, hcl, hpc⟩ := (S4.out.box (k := 0) rfl).act14
  obtain ⟨Ax, cx, hBx, -, -⟩ := S4.out.gridRd (k := 2) rfl
  obtain ⟨hxx, hfx, hzx⟩ := hBx.facts
  clear hBx
  go_wp2_with fail
  go_ret
  exact ⟨rfl, by rw [HN.out]; exact S4.out.tail⟩
set_option maxRecDepth 100000 in
set_option maxHeartbeats 8000000 in
theorem does_put_cneg (row : Nat) (h0 : row < L.length) (ca cb n : Int) (y : Cell) (A : Option Addr) (c : Nat) (cs : List Cell) (soft : Bool) (q : Pen) (hT : Tabs w0) (hS : Objs w0 w (.grid p 58 cols L :: .grid x 33 cols L :: os)) (hc : 0 < cols) (hcm : cols ≤ 1000) (hR : Rect cols L) (hL : 0 < L.length) (hLm : L.length ≤ 1000) (hA : RdC w0 A c cs) (hlc : cs.length ≤ 100000) (ia : -9223372036854775808 ≤ ca ∧ ca ≤ 9223372036854775807) (ib : -9223372036854775808 ≤ cb ∧ cb ≤ 9223372036854775807) (i_n : -9223372036854775808 ≤ n ∧ n ≤ 9223372036854775807) (h1 : ca < 0) :
  Calls Tryd.prog 43 #[.pointer (some ⟨p, 0, none⟩), .pointer (some ⟨x, 0, none⟩), .agg (av14 ⟨0, ↑row, ca, cb, n, y, A, c, cs, soft, q⟩)] w fun e w' => e = .returned (.bool true) ∧ Objs w0 w' (.grid p 58 cols (act14N ⟨0, ↑row, ca, cb, n, y, A, c, cs, soft, q⟩ cols L) :: .grid x 33 cols (act14N ⟨0, ↑row, ca, cb, n, y, A, c, cs, soft, q⟩ cols L) :: os) := by
 have HT := Lib.hid hT
 have S0 := Lib.hid hS
 have HR := Lib.hid hR
 have HA := Lib.hid hA
 have HM := Lib.hid (hR.mill hcm)
 have hlm2 : L.length ≤ 100000 := by omega
 have hlm3 : L.length ≤ 1000000 := by omega
 have HIA := Lib.hid ia
 have HIB := Lib.hid ib
 have HIN := Lib.hid i_n
 clear hT hS hR hA ia ib i_n
 have HE := Lib.hid (show putE ↑row ca y cols L.length = 3 by have hh : here14 (row : Int) L.length = true := decide_eq_true (by omega); unfold putE; rw [if_pos (fun h => by have := h.2; omega)])
 have HN := Lib.hid (show act14N ⟨0, ↑row, ca, cb, n, y, A, c, cs, soft, q⟩ cols L = L by simp [act14N, HE.out])
 go_enter Tryd.func43, Tryd.ntmps43
 go_upto_region 1 with (fail)
 refine at_objsC S0.out.alloc1 (fun W hW => ?_)
 generalize w.heap.size = b5 at hW ⊢
 have S1 := Lib.hid hW
 clear hW S0
 obtain ⟨hx, hf, hz, hr, hp, hcl, hpc⟩ := (S1.out.box (k := 0) rfl).act14
 obtain ⟨Ax, cx, hBx, -, -⟩ := S1.out.gridRd (k := 2) rfl
 obtain ⟨hxx, hfx, hzx⟩ := hBx.facts
 clear hBx
 have d1 : decide ((0 : Int) ≤ (row : Int)) = true := decide_eq_true (by omega)
 have d2 : decide ((row : Int) < (L.length : Int)) = true := decide_eq_true (by omega)
 refine wp_region_below (by kernel_rfl) (by kernel_rfl) ?_
 repeat (go_big_quiet_step (fail))
 refine wpQuiet_nil ?_
 intro w2 hb2
 have S2 := Lib.hid (S1.out.bel hb2)
 clear hb2 S1
 clear hx hf hz hr hp hcl hpc hxx hfx hzx
 obtain ⟨hx, hf, hz, hr, hp, hcl, hpc⟩ := (S2.out.box (k := 0) rfl).act14
 obtain ⟨Ax, cx, hBx, -, -⟩ := S2.out.gridRd (k := 2) rfl
 obtain ⟨hxx, hfx, hzx⟩ := hBx.facts
 clear hBx
 go_wp2_with fail
 have d3 : decide (ca < (0 : Int)) = true := decide_eq_true (by omega)
 refine wp_region_below (by kernel_rfl) (by kernel_rfl) ?_
 repeat (go_big_quiet_step (fail))
 refine wpQuiet_nil ?_
 intro w2 hb2
 have S3 := Lib.hid (S2.out.bel hb2)
 clear hb2 S2
 clear hx hf hz hr hp hcl hpc hxx hfx hzx
 obtain ⟨hx, hf, hz, hr, hp, hcl, hpc⟩ := (S3.out.box (k := 0) rfl).act14
 obtain ⟨Ax, cx, hBx, -, -⟩ := S3.out.gridRd (k := 2) rfl
 obtain ⟨hxx, hfx, hzx⟩ := hBx.facts
 clear hBx
 go_wp2_with fail
 have hcon := PutN y HT.out S3.out (k := 1) rfl hc hcm (row := row) (col := ca) (by rw [HE.out]; decide)
 rw [HE.out] at hcon
 refine hcon.mono ?_
 rintro e w3 ⟨rfl, hS⟩
 have S4 := Lib.hid hS
 clear hS hcon S3
 clear hx hf hz hr hp hcl hpc hxx hfx hzx
 obtain ⟨hx, hf, hz, hr, hp, hcl, hpc⟩ := (S4.out.box (k := 0) rfl).act14
 obtain ⟨Ax, cx, hBx, -, -⟩ := S4.out.gridRd (k := 2) rfl
 obtain ⟨hxx, hfx, hzx⟩ := hBx.facts
 clear hBx
 go_wp2_with fail
 go_ret
 exact ⟨rfl, by rw [HN.out]; exact S4.out.tail⟩
set_option maxRecDepth 100000 in
set_option maxHeartbeats 8000000 in
theorem does_put_cpast (row : Nat) (h0 : row < L.length) (ca cb n : Int) (y : Cell) (A : Option Addr) (c : Nat) (cs : List Cell) (soft : Bool) (q : Pen) (hT : Tabs w0) (hS : Objs w0 w (.grid p 58 cols L :: .grid x 33 cols L :: os)) (hc : 0 < cols) (hcm : cols ≤ 1000) (hR : Rect cols L) (hL : 0 < L.length) (hLm : L.length ≤ 1000) (hA : RdC w0 A c cs) (hlc : cs.length ≤ 100000) (ia : -9223372036854775808 ≤ ca ∧ ca ≤ 9223372036854775807) (ib : -9223372036854775808 ≤ cb ∧ cb ≤ 9223372036854775807) (i_n : -9223372036854775808 ≤ n ∧ n ≤ 9223372036854775807) (h1 : 0 ≤ ca) (h2 : (cols : Int) ≤ ca) :
  Calls Tryd.prog 43 #[.pointer (some ⟨p, 0, none⟩), .pointer (some ⟨x, 0, none⟩), .agg (av14 ⟨0, ↑row, ca, cb, n, y, A, c, cs, soft, q⟩)] w fun e w' => e = .returned (.bool true) ∧ Objs w0 w' (.grid p 58 cols (act14N ⟨0, ↑row, ca, cb, n, y, A, c, cs, soft, q⟩ cols L) :: .grid x 33 cols (act14N ⟨0, ↑row, ca, cb, n, y, A, c, cs, soft, q⟩ cols L) :: os) := by
 have HT := Lib.hid hT
 have S0 := Lib.hid hS
 have HR := Lib.hid hR
 have HA := Lib.hid hA
 have HM := Lib.hid (hR.mill hcm)
 have hlm2 : L.length ≤ 100000 := by omega
 have hlm3 : L.length ≤ 1000000 := by omega
 have HIA := Lib.hid ia
 have HIB := Lib.hid ib
 have HIN := Lib.hid i_n
 clear hT hS hR hA ia ib i_n
 have HE := Lib.hid (show putE ↑row ca y cols L.length = 3 by have hh : here14 (row : Int) L.length = true := decide_eq_true (by omega); unfold putE; rw [if_pos (fun h => by have := h.2; omega)])
 have HN := Lib.hid (show act14N ⟨0, ↑row, ca, cb, n, y, A, c, cs, soft, q⟩ cols L = L by simp [act14N, HE.out])
 go_enter Tryd.func43, Tryd.ntmps43
 go_upto_region 1 with (fail)
 refine at_objsC S0.out.alloc1 (fun W hW => ?_)
 generalize w.heap.size = b5 at hW ⊢
 have S1 := Lib.hid hW
 clear hW S0
 obtain ⟨hx, hf, hz, hr, hp, hcl, hpc⟩ := (S1.out.box (k := 0) rfl).act14
 obtain ⟨Ax, cx, hBx, -, -⟩ := S1.out.gridRd (k := 2) rfl
 obtain ⟨hxx, hfx, hzx⟩ := hBx.facts
 clear hBx
 have d1 : decide ((0 : Int) ≤ (row : Int)) = true := decide_eq_true (by omega)
 have d2 : decide ((row : Int) < (L.length : Int)) = true := decide_eq_true (by omega)
 refine wp_region_below (by kernel_rfl) (by kernel_rfl) ?_
 repeat (go_big_quiet_step (fail))
 refine wpQuiet_nil ?_
 intro w2 hb2
 have S2 := Lib.hid (S1.out.bel hb2)
 clear hb2 S1
 clear hx hf hz hr hp hcl hpc hxx hfx hzx
 obtain ⟨hx, hf, hz, hr, hp, hcl, hpc⟩ := (S2.out.box (k := 0) rfl).act14
 obtain ⟨Ax, cx, hBx, -, -⟩ := S2.out.gridRd (k := 2) rfl
 obtain ⟨hxx, hfx, hzx⟩ := hBx.facts
 clear hBx
 go_wp2_with fail
 have d3 : decide (ca < (0 : Int)) = false := decide_eq_false (by omega)
 have d4 : decide ((cols : Int) ≤ ca) = true := decide_eq_true (by omega)
 refine wp_region_below (by kernel_rfl) (by kernel_rfl) ?_
 repeat (go_big_quiet_step (fail))
 refine wpQuiet_nil ?_
 intro w2 hb2
 have S3 := Lib.hid (S2.out.bel hb2)
 clear hb2 S2
 clear hx hf hz hr hp hcl hpc hxx hfx hzx
 obtain ⟨hx, hf, hz, hr, hp, hcl, hpc⟩ := (S3.out.box (k := 0) rfl).act14
 obtain ⟨Ax, cx, hBx, -, -⟩ := S3.out.gridRd (k := 2) rfl
 obtain ⟨hxx, hfx, hzx⟩ := hBx.facts
 clear hBx
 go_wp2_with fail
 have hcon := PutN y HT.out S3.out (k := 1) rfl hc hcm (row := row) (col := ca) (by rw [HE.out]; decide)
 rw [HE.out] at hcon
 refine hcon.mono ?_
 rintro e w3 ⟨rfl, hS⟩
 have S4 := Lib.hid hS
 clear hS hcon S3
 clear hx hf hz hr hp hcl hpc hxx hfx hzx
 obtain ⟨hx, hf, hz, hr, hp, hcl, hpc⟩ := (S4.out.box (k := 0) rfl).act14
 obtain ⟨Ax, cx, hBx, -, -⟩ := S4.out.gridRd (k := 2) rfl
 obtain ⟨hxx, hfx, hzx⟩ := hBx.facts
 clear hBx
 go_wp2_with fail
 go_ret
 exact ⟨rfl, by rw [HN.out]; exact S4.out.tail⟩
set_option maxRecDepth 100000 in
set_option maxHeartbeats 8000000 in
theorem does_put_bad (row : Nat) (h0 : row < L.length) (cb n : Int) (y : Cell) (A : Option Addr) (c : Nat) (cs : List Cell) (soft : Bool) (q : Pen) (hT : Tabs w0) (hS : Objs w0 w (.grid p 58 cols L :: .grid x 33 cols L :: os)) (hc : 0 < cols) (hcm : cols ≤ 1000) (hR : Rect cols L) (hL : 0 < L.length) (hLm : L.length ≤ 1000) (hA : RdC w0 A c cs) (hlc : cs.length ≤ 100000) (ib : -9223372036854775808 ≤ cb ∧ cb ≤ 9223372036854775807) (i_n : -9223372036854775808 ≤ n ∧ n ≤ 9223372036854775807) (j : Nat) (hj : j < cols) (hv : y.ok = false) :
  Calls Tryd.prog 43 #[.pointer (some ⟨p, 0, none⟩), .pointer (some ⟨x, 0, none⟩), .agg (av14 ⟨0, ↑row, ↑j, cb, n, y, A, c, cs, soft, q⟩)] w fun e w' => e = .returned (.bool true) ∧ Objs w0 w' (.grid p 58 cols (act14N ⟨0, ↑row, ↑j, cb, n, y, A, c, cs, soft, q⟩ cols L) :: .grid x 33 cols (act14N ⟨0, ↑row, ↑j, cb, n, y, A, c, cs, soft, q⟩ cols L) :: os) := by
 have HT := Lib.hid hT
 have S0 := Lib.hid hS
 have HR := Lib.hid hR
 have HA := Lib.hid hA
 have HM := Lib.hid (hR.mill hcm)
 have hlm2 : L.length ≤ 100000 := by omega
 have hlm3 : L.length ≤ 1000000 := by omega
 have HIB := Lib.hid ib
 have HIN := Lib.hid i_n
 clear hT hS hR hA ib i_n
 have HE := Lib.hid (show putE ↑row ↑j y cols L.length = 2 by have hh : here14 (row : Int) L.length = true := decide_eq_true (by omega); unfold putE; rw [if_neg (fun h => h ⟨hh, by omega, by omega⟩), if_pos (fun h => by rw [hv] at h; exact absurd h.1 (by decide))])
 have HN := Lib.hid (show act14N ⟨0, ↑row, ↑j, cb, n, y, A, c, cs, soft, q⟩ cols L = L by simp [act14N, HE.out])
 have HVY := Lib.hid hv
 clear hv
 have HWC := Lib.hid (show IntKind.i64.wrap ((cols : Int) - 1) = (cols : Int) - 1 from IntWalk.i64_in _ (by omega))
 go_enter Tryd.func43, Tryd.ntmps43
 go_upto_region 1 with (fail)
 refine at_objsC S0.out.alloc1 (fun W hW => ?_)
 generalize w.heap.size = b5 at hW ⊢
 have S1 := Lib.hid hW
 clear hW S0
 obtain ⟨hx, hf, hz, hr, hp, hcl, hpc⟩ := (S1.out.box (k := 0) rfl).act14
 obtain ⟨Ax, cx, hBx, -, -⟩ := S1.out.gridRd (k := 2) rfl
 obtain ⟨hxx, hfx, hzx⟩ := hBx.facts
 clear hBx
 have d1 : decide ((0 : Int) ≤ (row : Int)) = true := decide_eq_true (by omega)
 have d2 : decide ((row : Int) < (L.length : Int)) = true := decide_eq_true (by omega)
 refine wp_region_below (by kernel_rfl) (by kernel_rfl) ?_
 repeat (go_big_quiet_step (fail))
 refine wpQuiet_nil ?_
 intro w2 hb2
 have S2 := Lib.hid (S1.out.bel hb2)
 clear hb2 S1
 clear hx hf hz hr hp hcl hpc hxx hfx hzx
 obtain ⟨hx, hf, hz, hr, hp, hcl, hpc⟩ := (S2.out.box (k := 0) rfl).act14
 obtain ⟨Ax, cx, hBx, -, -⟩ := S2.out.gridRd (k := 2) rfl
 obtain ⟨hxx, hfx, hzx⟩ := hBx.facts
 clear hBx
 go_wp2_with fail
 have d3 : decide ((j : Int) < (0 : Int)) = false := decide_eq_false (by omega)
 have d4 : decide ((cols : Int) ≤ (j : Int)) = false := decide_eq_false (by omega)
 have d4n : decide ((cols) ≤ (j)) = false := decide_eq_false (by omega)
 refine wp_region_below (by kernel_rfl) (by kernel_rfl) ?_
 repeat (go_big_quiet_step (fail))
 refine wpQuiet_nil ?_
 intro w2 hb2
 have S3 := Lib.hid (S2.out.bel hb2)
 clear hb2 S2
 clear hx hf hz hr hp hcl hpc hxx hfx hzx
 obtain ⟨hx, hf, hz, hr, hp, hcl, hpc⟩ := (S3.out.box (k := 0) rfl).act14
 obtain ⟨Ax, cx, hBx, -, -⟩ := S3.out.gridRd (k := 2) rfl
 obtain ⟨hxx, hfx, hzx⟩ := hBx.facts
 clear hBx
 clear hx hf hz hr hp hcl hpc hxx hfx hzx
 obtain ⟨hx, hf, hz, hr, hp, hcl, hpc⟩ := (S3.out.box (k := 0) rfl).act14
 obtain ⟨Ax, cx, hBx, -, -⟩ := S3.out.gridRd (k := 2) rfl
 obtain ⟨hxx, hfx, hzx⟩ := hBx.facts
 clear hBx
 go_upto_region 8 with (fail)
 clear hx hf hz hr hp hcl hpc hxx hfx hzx
 refine at_objsC S3.out (fun W hW => ?_)
 have HTW := Lib.hid (hW.tabs HT.out)
 have SW := Lib.hid hW
 clear hW S3
 have S4 := SW
 clear SW
 obtain ⟨hx, hf, hz, hr, hp, hcl, hpc⟩ := (S4.out.box (k := 0) rfl).act14
 obtain ⟨Ax, cx, hBx, -, -⟩ := S4.out.gridRd (k := 2) rfl
 obtain ⟨hxx, hfx, hzx⟩ := hBx.facts
 clear hBx
 have hxx0 := hx
 clear hx hf hr hp hpc
 refine wp_region_stage (w0 := W) (os := []) (by kernel_rfl) (by kernel_rfl) (by kernel_rfl) [] [[], [], [], [], [], [], [], [], [], [], [], [], [], [], [], [], [], [], [], [], [], [], [], [], [], [], []] [] (fun opn u => match opn with | 0 => u = .pointer (some ⟨b5, 5, none⟩) | 1 => u = .agg (cv y) | 2 => u = .bool false | 3 => u = .bool true | 4 => u = .bool true | 5 => u = (undef : Value) | 6 => u = (undef : Value) | 7 => u = (undef : Value) | 8 => u = (undef : Value) | 9 => u = .bool true | 10 => u = .bool true | 11 => u = (undef : Value) | 12 => u = (undef : Value) | 13 => u = (undef : Value) | 14 => u = (undef : Value) | 15 => u = (undef : Value) | 16 => u = (undef : Value) | 17 => u = (undef : Value) | 18 => u = (undef : Value) | 19 => u = (undef : Value) | 20 => u = (undef : Value) | 21 => u = (undef : Value) | 22 => u = (undef : Value) | 23 => u = (undef : Value) | 24 => u = (undef : Value) | 25 => u = .bool true | 26 => u = .bool true | _ => True) (fun vs => []) (by kernel_rfl) (fun vs => by rfl) (objs_start W) ?_ ?_
 ·refine SSteps.cons (fun a w' vs σ hS hl hs hk => ?_) ?_
  ·have f5 : a.tmps[5]?.getD undef = .pointer (some ⟨b5, 0, none⟩) := sof hk
   exact rp (.pointer (some ⟨b5, 5, none⟩)) (by simp [execOp, Act.eval, f5, go_sem]) hl hs hS
  refine SSteps.cons (fun a w' vs σ hS hl hs hk => ?_) ?_
  ·have f63 : a.tmps[63]?.getD undef = .pointer (some ⟨b5, 5, none⟩) := sf hk 0
   have hx := (cellAt_below hS.base hz 5).trans hcl
   exact rp (.agg (cv y)) (by simp [execOp, Act.eval, f63, go_sem, hx]) hl hs hS
  refine SSteps.cons (fun a w' vs σ hS hl hs hk => ?_) ?_
  ·have e64 : a.tmps.getD 64 undef = .agg (cv y) := sv hk 1
   have f64 := gd e64
   exact ro_call (f := 72) (wanted_none rfl) rfl (by simp only [List.map_toArray, List.map_cons, List.map_nil, Act.eval, e64] <;> rfl) (fun _ _ => by kernel_rfl) ((valid_no HVY.out w' (HTW.out.bel hS.base)).mono fun e w2 ⟨h1, h2⟩ => ⟨_, h1, sp_same (by kernel_rfl) hl hs (hS.bel h2) rfl, trivial⟩)
  refine SSteps.cons (fun a w' vs σ hS hl hs hk => ?_) ?_
  ·have f65 : a.tmps[65]?.getD undef = .bool false := sf hk 2
   exact rp (.bool true) (by simp [execOp, Act.eval, f65, go_sem]) hl hs hS
  refine SSteps.cons (fun a w' vs σ hS hl hs hk => ?_) ?_
  ·have f66 : a.tmps[66]?.getD undef = .bool true := sf hk 3
   exact rp (.bool true) (by simp [execOp, Act.eval, f66, go_sem]) hl hs hS
  refine SSteps.cons (fun a w' vs σ hS hl hs hk => ?_) ?_
  ·exact rs_skip (wanted_no rfl rfl rfl (sv hk 4) (by decide)) (sp_same (by kernel_rfl) hl hs hS rfl)
  refine SSteps.cons (fun a w' vs σ hS hl hs hk => ?_) ?_
  ·exact rs_skip (wanted_no rfl rfl rfl (sv hk 4) (by decide)) (sp_same (by kernel_rfl) hl hs hS rfl)
  refine SSteps.cons (fun a w' vs σ hS hl hs hk => ?_) ?_
  ·exact rs_skip (wanted_no rfl rfl rfl (sv hk 4) (by decide)) (sp_same (by kernel_rfl) hl hs hS rfl)
  refine SSteps.cons (fun a w' vs σ hS hl hs hk => ?_) ?_
  ·exact rs_skip (wanted_no rfl rfl rfl (sv hk 4) (by decide)) (sp_same (by kernel_rfl) hl hs hS rfl)
  refine SSteps.cons (fun a w' vs σ hS hl hs hk => ?_) ?_
  ·have f67 : a.tmps[67]?.getD undef = .bool true := sf hk 4
   have f71 : a.tmps[71]?.getD undef = (undef : Value) := sf hk 8
   exact rp (.bool true) (by simp [execOp, Act.eval, f67, f71, go_sem]) hl hs hS
  refine SSteps.cons (fun a w' vs σ hS hl hs hk => ?_) ?_
  ·have f72 : a.tmps[72]?.getD undef = .bool true := sf hk 9
   exact rp (.bool true) (by simp [execOp, Act.eval, f72, go_sem]) hl hs hS
  refine SSteps.cons (fun a w' vs σ hS hl hs hk => ?_) ?_
  ·exact rs_skip (wanted_no rfl rfl rfl (sv hk 10) (by decide)) (sp_same (by kernel_rfl) hl hs hS rfl)
  refine SSteps.cons (fun a w' vs σ hS hl hs hk => ?_) ?_
  ·exact rs_skip (wanted_no rfl rfl rfl (sv hk 10) (by decide)) (sp_same (by kernel_rfl) hl hs hS rfl)
  refine SSteps.cons (fun a w' vs σ hS hl hs hk => ?_) ?_
  ·exact rs_skip (wanted_no rfl rfl rfl (sv hk 10) (by decide)) (sp_same (by kernel_rfl) hl hs hS rfl)
  refine SSteps.cons (fun a w' vs σ hS hl hs hk => ?_) ?_
  ·exact rs_skip (wanted_no rfl rfl rfl (sv hk 10) (by decide)) (sp_same (by kernel_rfl) hl hs hS rfl)
  refine SSteps.cons (fun a w' vs σ hS hl hs hk => ?_) ?_
  ·exact rs_skip (wanted_no rfl rfl rfl (sv hk 10) (by decide)) (sp_same (by kernel_rfl) hl hs hS rfl)
  refine SSteps.cons (fun a w' vs σ hS hl hs hk => ?_) ?_
  ·exact rs_skip (wanted_undef rfl rfl rfl (sv hk 15)) (sp_same (by kernel_rfl) hl hs hS rfl)
  refine SSteps.cons (fun a w' vs σ hS hl hs hk => ?_) ?_
  ·exact rs_skip (wanted_undef rfl rfl rfl (sv hk 15)) (sp_same (by kernel_rfl) hl hs hS rfl)
  refine SSteps.cons (fun a w' vs σ hS hl hs hk => ?_) ?_
  ·exact rs_skip (wanted_undef rfl rfl rfl (sv hk 15)) (sp_same (by kernel_rfl) hl hs hS rfl)
  refine SSteps.cons (fun a w' vs σ hS hl hs hk => ?_) ?_
  ·exact rs_skip (wanted_undef rfl rfl rfl (sv hk 15)) (sp_same (by kernel_rfl) hl hs hS rfl)
  refine SSteps.cons (fun a w' vs σ hS hl hs hk => ?_) ?_
  ·exact rs_skip (wanted_undef rfl rfl rfl (sv hk 15)) (sp_same (by kernel_rfl) hl hs hS rfl)
  refine SSteps.cons (fun a w' vs σ hS hl hs hk => ?_) ?_
  ·exact rs_skip (wanted_undef rfl rfl rfl (sv hk 15)) (sp_same (by kernel_rfl) hl hs hS rfl)
  refine SSteps.cons (fun a w' vs σ hS hl hs hk => ?_) ?_
  ·exact rs_skip (wanted_undef rfl rfl rfl (sv hk 15)) (sp_same (by kernel_rfl) hl hs hS rfl)
  refine SSteps.cons (fun a w' vs σ hS hl hs hk => ?_) ?_
  ·exact rs_skip (wanted_undef rfl rfl rfl (sv hk 15)) (sp_same (by kernel_rfl) hl hs hS rfl)
  refine SSteps.cons (fun a w' vs σ hS hl hs hk => ?_) ?_
  ·exact rs_skip (wanted_no rfl rfl rfl (sv hk 10) (by decide)) (sp_same (by kernel_rfl) hl hs hS rfl)
  refine SSteps.cons (fun a w' vs σ hS hl hs hk => ?_) ?_
  ·have f73 : a.tmps[73]?.getD undef = .bool true := sf hk 10
   have f87 : a.tmps[87]?.getD undef = (undef : Value) := sf hk 24
   exact rp (.bool true) (by simp [execOp, Act.eval, f73, f87, go_sem]) hl hs hS
  refine SSteps.cons (fun a w' vs σ hS hl hs hk => ?_) ?_
  ·have f88 : a.tmps[88]?.getD undef = .bool true := sf hk 25
   exact rp (.bool true) (by simp [execOp, Act.eval, f88, go_sem]) hl hs hS
  exact SSteps.nil
 ·intro vs w' hS hv
  have q0 : vs 0 = .pointer (some ⟨b5, 5, none⟩) := hv 0 (by decide)
  have q1 : vs 1 = .agg (cv y) := hv 1 (by decide)
  have q2 : vs 2 = .bool false := hv 2 (by decide)
  have q3 : vs 3 = .bool true := hv 3 (by decide)
  have q4 : vs 4 = .bool true := hv 4 (by decide)
  have q5 : vs 5 = undef := hv 5 (by decide)
  have q6 : vs 6 = undef := hv 6 (by decide)
  have q7 : vs 7 = undef := hv 7 (by decide)
  have q8 : vs 8 = undef := hv 8 (by decide)
  have q9 : vs 9 = .bool true := hv 9 (by decide)
  have q10 : vs 10 = .bool true := hv 10 (by decide)
  have q11 : vs 11 = undef := hv 11 (by decide)
  have q12 : vs 12 = undef := hv 12 (by decide)
  have q13 : vs 13 = undef := hv 13 (by decide)
  have q14 : vs 14 = undef := hv 14 (by decide)
  have q15 : vs 15 = undef := hv 15 (by decide)
  have q16 : vs 16 = undef := hv 16 (by decide)
  have q17 : vs 17 = undef := hv 17 (by decide)
  have q18 : vs 18 = undef := hv 18 (by decide)
  have q19 : vs 19 = undef := hv 19 (by decide)
  have q20 : vs 20 = undef := hv 20 (by decide)
  have q21 : vs 21 = undef := hv 21 (by decide)
  have q22 : vs 22 = undef := hv 22 (by decide)
  have q23 : vs 23 = undef := hv 23 (by decide)
  have q24 : vs 24 = undef := hv 24 (by decide)
  have q25 : vs 25 = .bool true := hv 25 (by decide)
  have q26 : vs 26 = .bool true := hv 26 (by decide)
  have S2 := Lib.hid hS
  simp only [putL, Act.put, Nat.zero_add, Nat.reduceAdd, List.setIfInBounds_toArray, List.set_cons_succ, List.set_cons_zero, q0, q1, q2, q3, q4, q5, q6, q7, q8, q9, q10, q11, q12, q13, q14, q15, q16, q17, q18, q19, q20, q21, q22, q23, q24, q25, q26]
  clear hS hv q0 q1 q2 q3 q4 q5 q6 q7 q8 q9 q10 q11 q12 q13 q14 q15 q16 q17 q18 q19 q20 q21 q22 q23 q24 q25 q26
  have S99 := Lib.hid (S4.out.bel S2.out.base)
  clear S2 HTW hz hcl hxx hfx hzx hxx0 S4
  obtain ⟨hx, hf, hz, hr, hp, hcl, hpc⟩ := (S99.out.box (k := 0) rfl).act14
  obtain ⟨Ax, cx, hBx, -, -⟩ := S99.out.gridRd (k := 2) rfl
  obtain ⟨hxx, hfx, hzx⟩ := hBx.facts
  clear hBx
  go_wp2_with fail
  have hcon := PutN y HT.out S99.out (k := 1) rfl hc hcm (row := ↑row) (col := ↑j) (by rw [HE.out]; decide)
  rw [HE.out] at hcon
  refine hcon.mono ?_
  rintro e w3 ⟨rfl, hS⟩
  have S100 := Lib.hid hS
  clear hS hcon S99
  clear hx hf hz hr hp hcl hpc hxx hfx hzx
  obtain ⟨hx, hf, hz, hr, hp, hcl, hpc⟩ := (S100.out.box (k := 0) rfl).act14
  obtain ⟨Ax, cx, hBx, -, -⟩ := S100.out.gridRd (k := 2) rfl
  obtain ⟨hxx, hfx, hzx⟩ := hBx.facts
  clear hBx
  go_wp2_with fail
  go_ret
  exact ⟨rfl, by rw [HN.out]; exact S100.out.tail⟩
set_option maxRecDepth 100000 in
set_option maxHeartbeats 8000000 in
theorem does_put_zero (row : Nat) (h0 : row < L.length) (cb n : Int) (y : Cell) (A : Option Addr) (c : Nat) (cs : List Cell) (soft : Bool) (q : Pen) (hT : Tabs w0) (hS : Objs w0 w (.grid p 58 cols L :: .grid x 33 cols L :: os)) (hc : 0 < cols) (hcm : cols ≤ 1000) (hR : Rect cols L) (hL : 0 < L.length) (hLm : L.length ≤ 1000) (hA : RdC w0 A c cs) (hlc : cs.length ≤ 100000) (ib : -9223372036854775808 ≤ cb ∧ cb ≤ 9223372036854775807) (i_n : -9223372036854775808 ≤ n ∧ n ≤ 9223372036854775807) (j : Nat) (hj : j < cols) (hv : y.ok = true) (hw0 : y.width = 0) :
  Calls Tryd.prog 43 #[.pointer (some ⟨p, 0, none⟩), .pointer (some ⟨x, 0, none⟩), .agg (av14 ⟨0, ↑row, ↑j, cb, n, y, A, c, cs, soft, q⟩)] w fun e w' => e = .returned (.bool true) ∧ Objs w0 w' (.grid p 58 cols (act14N ⟨0, ↑row, ↑j, cb, n, y, A, c, cs, soft, q⟩ cols L) :: .grid x 33 cols (act14N ⟨0, ↑row, ↑j, cb, n, y, A, c, cs, soft, q⟩ cols L) :: os) := by
 have HT := Lib.hid hT
 have S0 := Lib.hid hS
 have HR := Lib.hid hR
 have HA := Lib.hid hA
 have HM := Lib.hid (hR.mill hcm)
 have hlm2 : L.length ≤ 100000 := by omega
 have hlm3 : L.length ≤ 1000000 := by omega
 have HIB := Lib.hid ib
 have HIN := Lib.hid i_n
 clear hT hS hR hA ib i_n
 have HE := Lib.hid (show putE ↑row ↑j y cols L.length = 2 by have hh : here14 (row : Int) L.length = true := decide_eq_true (by omega); unfold putE; rw [if_neg (fun h => h ⟨hh, by omega, by omega⟩), if_pos (fun h => h.2.1 hw0)])
 have HN := Lib.hid (show act14N ⟨0, ↑row, ↑j, cb, n, y, A, c, cs, soft, q⟩ cols L = L by simp [act14N, HE.out])
 have HVY := Lib.hid hv
 have HW0 := Lib.hid hw0
 clear hv hw0
 have HWC := Lib.hid (show IntKind.i64.wrap ((cols : Int) - 1) = (cols : Int) - 1 from IntWalk.i64_in _ (by omega))
 go_enter Tryd.func43, Tryd.ntmps43
 go_upto_region 1 with (fail)
 refine at_objsC S0.out.alloc1 (fun W hW => ?_)
 generalize w.heap.size = b5 at hW ⊢
 have S1 := Lib.hid hW
 clear hW S0
 obtain ⟨hx, hf, hz, hr, hp, hcl, hpc⟩ := (S1.out.box (k := 0) rfl).act14
 obtain ⟨Ax, cx, hBx, -, -⟩ := S1.out.gridRd (k := 2) rfl
 obtain ⟨hxx, hfx, hzx⟩ := hBx.facts
 clear hBx
 have d1 : decide ((0 : Int) ≤ (row : Int)) = true := decide_eq_true (by omega)
 have d2 : decide ((row : Int) < (L.length : Int)) = true := decide_eq_true (by omega)
 refine wp_region_below (by kernel_rfl) (by kernel_rfl) ?_
 repeat (go_big_quiet_step (fail))
 refine wpQuiet_nil ?_
 intro w2 hb2
 have S2 := Lib.hid (S1.out.bel hb2)
 clear hb2 S1
 clear hx hf hz hr hp hcl hpc hxx hfx hzx
 obtain ⟨hx, hf, hz, hr, hp, hcl, hpc⟩ := (S2.out.box (k := 0) rfl).act14
 obtain ⟨Ax, cx, hBx, -, -⟩ := S2.out.gridRd (k := 2) rfl
 obtain ⟨hxx, hfx, hzx⟩ := hBx.facts
 clear hBx
 go_wp2_with fail
 have d3 : decide ((j : Int) < (0 : Int)) = false := decide_eq_false (by omega)
 have d4 : decide ((cols : Int) ≤ (j : Int)) = false := decide_eq_false (by omega)
 have d4n : decide ((cols) ≤ (j)) = false := decide_eq_false (by omega)
 refine wp_region_below (by kernel_rfl) (by kernel_rfl) ?_
 repeat (go_big_quiet_step (fail))
 refine wpQuiet_nil ?_
 intro w2 hb2
 have S3 := Lib.hid (S2.out.bel hb2)
 clear hb2 S2
 clear hx hf hz hr hp hcl hpc hxx hfx hzx
 obtain ⟨hx, hf, hz, hr, hp, hcl, hpc⟩ := (S3.out.box (k := 0) rfl).act14
 obtain ⟨Ax, cx, hBx, -, -⟩ := S3.out.gridRd (k := 2) rfl
 obtain ⟨hxx, hfx, hzx⟩ := hBx.facts
 clear hBx
 clear hx hf hz hr hp hcl hpc hxx hfx hzx
 obtain ⟨hx, hf, hz, hr, hp, hcl, hpc⟩ := (S3.out.box (k := 0) rfl).act14
 obtain ⟨Ax, cx, hBx, -, -⟩ := S3.out.gridRd (k := 2) rfl
 obtain ⟨hxx, hfx, hzx⟩ := hBx.facts
 clear hBx
 go_upto_region 8 with (fail)
 clear hx hf hz hr hp hcl hpc hxx hfx hzx
 refine at_objsC S3.out (fun W hW => ?_)
 have HTW := Lib.hid (hW.tabs HT.out)
 have SW := Lib.hid hW
 clear hW S3
 have S4 := SW
 clear SW
 obtain ⟨hx, hf, hz, hr, hp, hcl, hpc⟩ := (S4.out.box (k := 0) rfl).act14
 obtain ⟨Ax, cx, hBx, -, -⟩ := S4.out.gridRd (k := 2) rfl
 obtain ⟨hxx, hfx, hzx⟩ := hBx.facts
 clear hBx
 have hxx0 := hx
 clear hx hf hr hp hpc
 refine wp_region_stage (w0 := W) (os := []) (by kernel_rfl) (by kernel_rfl) (by kernel_rfl) [] [[], [], [], [], [], [], [], [], [], [], [], [], [], [], [], [], [], [], [], [], [], [], [], [], [], [], []] [] (fun opn u => match opn with | 0 => u = .pointer (some ⟨b5, 5, none⟩) | 1 => u = .agg (cv y) | 2 => u = .bool true | 3 => u = .bool false | 4 => u = .bool false | 5 => u = .pointer (some ⟨b5, 5, none⟩) | 6 => u = .pointer (some ⟨b5, 9, none⟩) | 7 => u = .int .i64 y.width | 8 => u = .bool true | 9 => u = .bool true | 10 => u = .bool true | 11 => u = (undef : Value) | 12 => u = (undef : Value) | 13 => u = (undef : Value) | 14 => u = (undef : Value) | 15 => u = (undef : Value) | 16 => u = (undef : Value) | 17 => u = (undef : Value) | 18 => u = (undef : Value) | 19 => u = (undef : Value) | 20 => u = (undef : Value) | 21 => u = (undef : Value) | 22 => u = (undef : Value) | 23 => u = (undef : Value) | 24 => u = (undef : Value) | 25 => u = .bool true | 26 => u = .bool true | _ => True) (fun vs => []) (by kernel_rfl) (fun vs => by rfl) (objs_start W) ?_ ?_
 ·refine SSteps.cons (fun a w' vs σ hS hl hs hk => ?_) ?_
  ·have f5 : a.tmps[5]?.getD undef = .pointer (some ⟨b5, 0, none⟩) := sof hk
   exact rp (.pointer (some ⟨b5, 5, none⟩)) (by simp [execOp, Act.eval, f5, go_sem]) hl hs hS
  refine SSteps.cons (fun a w' vs σ hS hl hs hk => ?_) ?_
  ·have f63 : a.tmps[63]?.getD undef = .pointer (some ⟨b5, 5, none⟩) := sf hk 0
   have hx := (cellAt_below hS.base hz 5).trans hcl
   exact rp (.agg (cv y)) (by simp [execOp, Act.eval, f63, go_sem, hx]) hl hs hS
  refine SSteps.cons (fun a w' vs σ hS hl hs hk => ?_) ?_
  ·have e64 : a.tmps.getD 64 undef = .agg (cv y) := sv hk 1
   have f64 := gd e64
   exact ro_call (f := 72) (wanted_none rfl) rfl (by simp only [List.map_toArray, List.map_cons, List.map_nil, Act.eval, e64] <;> rfl) (fun _ _ => by kernel_rfl) ((valid_yes HVY.out w' (HTW.out.bel hS.base)).mono fun e w2 ⟨h1, h2⟩ => ⟨_, h1, sp_same (by kernel_rfl) hl hs (hS.bel h2) rfl, trivial⟩)
  refine SSteps.cons (fun a w' vs σ hS hl hs hk => ?_) ?_
  ·have f65 : a.tmps[65]?.getD undef = .bool true := sf hk 2
   exact rp (.bool false) (by simp [execOp, Act.eval, f65, go_sem]) hl hs hS
  refine SSteps.cons (fun a w' vs σ hS hl hs hk => ?_) ?_
  ·have f66 : a.tmps[66]?.getD undef = .bool false := sf hk 3
   exact rp (.bool false) (by simp [execOp, Act.eval, f66, go_sem]) hl hs hS
  refine SSteps.cons (fun a w' vs σ hS hl hs hk => ?_) ?_
  ·have f5 : a.tmps[5]?.getD undef = .pointer (some ⟨b5, 0, none⟩) := sof hk
   exact rq (.pointer (some ⟨b5, 5, none⟩)) (wanted_yes rfl rfl rfl (sv hk 4)) (by simp [execOp, Act.eval, f5, go_sem]) hl hs hS
  refine SSteps.cons (fun a w' vs σ hS hl hs hk => ?_) ?_
  ·have f68 : a.tmps[68]?.getD undef = .pointer (some ⟨b5, 5, none⟩) := sf hk 5
   exact rq (.pointer (some ⟨b5, 9, none⟩)) (wanted_yes rfl rfl rfl (sv hk 4)) (by simp [execOp, Act.eval, f68, go_sem]) hl hs hS
  refine SSteps.cons (fun a w' vs σ hS hl hs hk => ?_) ?_
  ·have f69 : a.tmps[69]?.getD undef = .pointer (some ⟨b5, 9, none⟩) := sf hk 6
   have hx := (hS.base.cell (p := ⟨b5, 9, none⟩) hz).trans (hxx0 9)
   exact rq (.int .i64 y.width) (wanted_yes rfl rfl rfl (sv hk 4)) (by simp [execOp, Act.eval, f69, go_sem, hx]) hl hs hS
  refine SSteps.cons (fun a w' vs σ hS hl hs hk => ?_) ?_
  ·have f70 : a.tmps[70]?.getD undef = .int .i64 y.width := sf hk 7
   have hw0 := HW0.out
   exact rq (.bool true) (wanted_yes rfl rfl rfl (sv hk 4)) (by simp [execOp, Act.eval, f70, go_sem, hw0]) hl hs hS
  refine SSteps.cons (fun a w' vs σ hS hl hs hk => ?_) ?_
  ·have f67 : a.tmps[67]?.getD undef = .bool false := sf hk 4
   have f71 : a.tmps[71]?.getD undef = .bool true := sf hk 8
   exact rp (.bool true) (by simp [execOp, Act.eval, f67, f71, go_sem]) hl hs hS
  refine SSteps.cons (fun a w' vs σ hS hl hs hk => ?_) ?_
  ·have f72 : a.tmps[72]?.getD undef = .bool true := sf hk 9
   exact rp (.bool true) (by simp [execOp, Act.eval, f72, go_sem]) hl hs hS
  refine SSteps.cons (fun a w' vs σ hS hl hs hk => ?_) ?_
  ·exact rs_skip (wanted_no rfl rfl rfl (sv hk 10) (by decide)) (sp_same (by kernel_rfl) hl hs hS rfl)
  refine SSteps.cons (fun a w' vs σ hS hl hs hk => ?_) ?_
  ·exact rs_skip (wanted_no rfl rfl rfl (sv hk 10) (by decide)) (sp_same (by kernel_rfl) hl hs hS rfl)
  refine SSteps.cons (fun a w' vs σ hS hl hs hk => ?_) ?_
  ·exact rs_skip (wanted_no rfl rfl rfl (sv hk 10) (by decide)) (sp_same (by kernel_rfl) hl hs hS rfl)
  refine SSteps.cons (fun a w' vs σ hS hl hs hk => ?_) ?_
  ·exact rs_skip (wanted_no rfl rfl rfl (sv hk 10) (by decide)) (sp_same (by kernel_rfl) hl hs hS rfl)
  refine SSteps.cons (fun a w' vs σ hS hl hs hk => ?_) ?_
  ·exact rs_skip (wanted_no rfl rfl rfl (sv hk 10) (by decide)) (sp_same (by kernel_rfl) hl hs hS rfl)
  refine SSteps.cons (fun a w' vs σ hS hl hs hk => ?_) ?_
  ·exact rs_skip (wanted_undef rfl rfl rfl (sv hk 15)) (sp_same (by kernel_rfl) hl hs hS rfl)
  refine SSteps.cons (fun a w' vs σ hS hl hs hk => ?_) ?_
  ·exact rs_skip (wanted_undef rfl rfl rfl (sv hk 15)) (sp_same (by kernel_rfl) hl hs hS rfl)
  refine SSteps.cons (fun a w' vs σ hS hl hs hk => ?_) ?_
  ·exact rs_skip (wanted_undef rfl rfl rfl (sv hk 15)) (sp_same (by kernel_rfl) hl hs hS rfl)
  refine SSteps.cons (fun a w' vs σ hS hl hs hk => ?_) ?_
  ·exact rs_skip (wanted_undef rfl rfl rfl (sv hk 15)) (sp_same (by kernel_rfl) hl hs hS rfl)
  refine SSteps.cons (fun a w' vs σ hS hl hs hk => ?_) ?_
  ·exact rs_skip (wanted_undef rfl rfl rfl (sv hk 15)) (sp_same (by kernel_rfl) hl hs hS rfl)
  refine SSteps.cons (fun a w' vs σ hS hl hs hk => ?_) ?_
  ·exact rs_skip (wanted_undef rfl rfl rfl (sv hk 15)) (sp_same (by kernel_rfl) hl hs hS rfl)
  refine SSteps.cons (fun a w' vs σ hS hl hs hk => ?_) ?_
  ·exact rs_skip (wanted_undef rfl rfl rfl (sv hk 15)) (sp_same (by kernel_rfl) hl hs hS rfl)
  refine SSteps.cons (fun a w' vs σ hS hl hs hk => ?_) ?_
  ·exact rs_skip (wanted_undef rfl rfl rfl (sv hk 15)) (sp_same (by kernel_rfl) hl hs hS rfl)
  refine SSteps.cons (fun a w' vs σ hS hl hs hk => ?_) ?_
  ·exact rs_skip (wanted_no rfl rfl rfl (sv hk 10) (by decide)) (sp_same (by kernel_rfl) hl hs hS rfl)
  refine SSteps.cons (fun a w' vs σ hS hl hs hk => ?_) ?_
  ·have f73 : a.tmps[73]?.getD undef = .bool true := sf hk 10
   have f87 : a.tmps[87]?.getD undef = (undef : Value) := sf hk 24
   exact rp (.bool true) (by simp [execOp, Act.eval, f73, f87, go_sem]) hl hs hS
  refine SSteps.cons (fun a w' vs σ hS hl hs hk => ?_) ?_
  ·have f88 : a.tmps[88]?.getD undef = .bool true := sf hk 25
   exact rp (.bool true) (by simp [execOp, Act.eval, f88, go_sem]) hl hs hS
  exact SSteps.nil
 ·intro vs w' hS hv
  have q0 : vs 0 = .pointer (some ⟨b5, 5, none⟩) := hv 0 (by decide)
  have q1 : vs 1 = .agg (cv y) := hv 1 (by decide)
  have q2 : vs 2 = .bool true := hv 2 (by decide)
  have q3 : vs 3 = .bool false := hv 3 (by decide)
  have q4 : vs 4 = .bool false := hv 4 (by decide)
  have q5 : vs 5 = .pointer (some ⟨b5, 5, none⟩) := hv 5 (by decide)
  have q6 : vs 6 = .pointer (some ⟨b5, 9, none⟩) := hv 6 (by decide)
  have q7 : vs 7 = .int .i64 y.width := hv 7 (by decide)
  have q8 : vs 8 = .bool true := hv 8 (by decide)
  have q9 : vs 9 = .bool true := hv 9 (by decide)
  have q10 : vs 10 = .bool true := hv 10 (by decide)
  have q11 : vs 11 = undef := hv 11 (by decide)
  have q12 : vs 12 = undef := hv 12 (by decide)
  have q13 : vs 13 = undef := hv 13 (by decide)
  have q14 : vs 14 = undef := hv 14 (by decide)
  have q15 : vs 15 = undef := hv 15 (by decide)
  have q16 : vs 16 = undef := hv 16 (by decide)
  have q17 : vs 17 = undef := hv 17 (by decide)
  have q18 : vs 18 = undef := hv 18 (by decide)
  have q19 : vs 19 = undef := hv 19 (by decide)
  have q20 : vs 20 = undef := hv 20 (by decide)
  have q21 : vs 21 = undef := hv 21 (by decide)
  have q22 : vs 22 = undef := hv 22 (by decide)
  have q23 : vs 23 = undef := hv 23 (by decide)
  have q24 : vs 24 = undef := hv 24 (by decide)
  have q25 : vs 25 = .bool true := hv 25 (by decide)
  have q26 : vs 26 = .bool true := hv 26 (by decide)
  have S2 := Lib.hid hS
  simp only [putL, Act.put, Nat.zero_add, Nat.reduceAdd, List.setIfInBounds_toArray, List.set_cons_succ, List.set_cons_zero, q0, q1, q2, q3, q4, q5, q6, q7, q8, q9, q10, q11, q12, q13, q14, q15, q16, q17, q18, q19, q20, q21, q22, q23, q24, q25, q26]
  clear hS hv q0 q1 q2 q3 q4 q5 q6 q7 q8 q9 q10 q11 q12 q13 q14 q15 q16 q17 q18 q19 q20 q21 q22 q23 q24 q25 q26
  have S99 := Lib.hid (S4.out.bel S2.out.base)
  clear S2 HTW hz hcl hxx hfx hzx hxx0 S4
  obtain ⟨hx, hf, hz, hr, hp, hcl, hpc⟩ := (S99.out.box (k := 0) rfl).act14
  obtain ⟨Ax, cx, hBx, -, -⟩ := S99.out.gridRd (k := 2) rfl
  obtain ⟨hxx, hfx, hzx⟩ := hBx.facts
  clear hBx
  go_wp2_with fail
  have hcon := PutN y HT.out S99.out (k := 1) rfl hc hcm (row := ↑row) (col := ↑j) (by rw [HE.out]; decide)
  rw [HE.out] at hcon
  refine hcon.mono ?_
  rintro e w3 ⟨rfl, hS⟩
  have S100 := Lib.hid hS
  clear hS hcon S99
  clear hx hf hz hr hp hcl hpc hxx hfx hzx
  obtain ⟨hx, hf, hz, hr, hp, hcl, hpc⟩ := (S100.out.box (k := 0) rfl).act14
  obtain ⟨Ax, cx, hBx, -, -⟩ := S100.out.gridRd (k := 2) rfl
  obtain ⟨hxx, hfx, hzx⟩ := hBx.facts
  clear hBx
  go_wp2_with fail
  go_ret
  exact ⟨rfl, by rw [HN.out]; exact S100.out.tail⟩
set_option maxRecDepth 100000 in
set_option maxHeartbeats 8000000 in
theorem does_put_wide (row : Nat) (h0 : row < L.length) (cb n : Int) (y : Cell) (A : Option Addr) (c : Nat) (cs : List Cell) (soft : Bool) (q : Pen) (hT : Tabs w0) (hS : Objs w0 w (.grid p 58 cols L :: .grid x 33 cols L :: os)) (hc : 0 < cols) (hcm : cols ≤ 1000) (hR : Rect cols L) (hL : 0 < L.length) (hLm : L.length ≤ 1000) (hA : RdC w0 A c cs) (hlc : cs.length ≤ 100000) (ib : -9223372036854775808 ≤ cb ∧ cb ≤ 9223372036854775807) (i_n : -9223372036854775808 ≤ n ∧ n ≤ 9223372036854775807) (j : Nat) (hj : j < cols) (hv : y.ok = true) (hw2 : y.width = 2) (hwd : (j : Int) = (cols : Int) - 1) :
  Calls Tryd.prog 43 #[.pointer (some ⟨p, 0, none⟩), .pointer (some ⟨x, 0, none⟩), .agg (av14 ⟨0, ↑row, ↑j, cb, n, y, A, c, cs, soft, q⟩)] w fun e w' => e = .returned (.bool true) ∧ Objs w0 w' (.grid p 58 cols (act14N ⟨0, ↑row, ↑j, cb, n, y, A, c, cs, soft, q⟩ cols L) :: .grid x 33 cols (act14N ⟨0, ↑row, ↑j, cb, n, y, A, c, cs, soft, q⟩ cols L) :: os) := by
 have HT := Lib.hid hT
 have S0 := Lib.hid hS
 have HR := Lib.hid hR
 have HA := Lib.hid hA
 have HM := Lib.hid (hR.mill hcm)
 have hlm2 : L.length ≤ 100000 := by omega
 have hlm3 : L.length ≤ 1000000 := by omega
 have HIB := Lib.hid ib
 have HIN := Lib.hid i_n
 clear hT hS hR hA ib i_n
 have HE := Lib.hid (show putE ↑row ↑j y cols L.length = 2 by have hh : here14 (row : Int) L.length = true := decide_eq_true (by omega); unfold putE; rw [if_neg (fun h => h ⟨hh, by omega, by omega⟩), if_pos (fun h => by have := h.2.2; omega)])
 have HN := Lib.hid (show act14N ⟨0, ↑row, ↑j, cb, n, y, A, c, cs, soft, q⟩ cols L = L by simp [act14N, HE.out])
 have HVY := Lib.hid hv
 have HW2 := Lib.hid hw2
 have HW0 := Lib.hid (show ¬ y.width = 0 by omega)
 have HWD := Lib.hid hwd
 clear hv hw2 hwd
 have HWC := Lib.hid (show IntKind.i64.wrap ((cols : Int) - 1) = (cols : Int) - 1 from IntWalk.i64_in _ (by omega))
 go_enter Tryd.func43, Tryd.ntmps43
 go_upto_region 1 with (fail)
 refine at_objsC S0.out.alloc1 (fun W hW => ?_)
 generalize w.heap.size = b5 at hW ⊢
 have S1 := Lib.hid hW
 clear hW S0
 obtain ⟨hx, hf, hz, hr, hp, hcl, hpc⟩ := (S1.out.box (k := 0) rfl).act14
 obtain ⟨Ax, cx, hBx, -, -⟩ := S1.out.gridRd (k := 2) rfl
 obtain ⟨hxx, hfx, hzx⟩ := hBx.facts
 clear hBx
 have d1 : decide ((0 : Int) ≤ (row : Int)) = true := decide_eq_true (by omega)
 have d2 : decide ((row : Int) < (L.length : Int)) = true := decide_eq_true (by omega)
 refine wp_region_below (by kernel_rfl) (by kernel_rfl) ?_
 repeat (go_big_quiet_step (fail))
 refine wpQuiet_nil ?_
 intro w2 hb2
 have S2 := Lib.hid (S1.out.bel hb2)
 clear hb2 S1
 clear hx hf hz hr hp hcl hpc hxx hfx hzx
 obtain ⟨hx, hf, hz, hr, hp, hcl, hpc⟩ := (S2.out.box (k := 0) rfl).act14
 obtain ⟨Ax, cx, hBx, -, -⟩ := S2.out.gridRd (k := 2) rfl
 obtain ⟨hxx, hfx, hzx⟩ := hBx.facts
 clear hBx
 go_wp2_with fail
 have d3 : decide ((j : Int) < (0 : Int)) = false := decide_eq_false (by omega)
 have d4 : decide ((cols : Int) ≤ (j : Int)) = false := decide_eq_false (by omega)
 have d4n : decide ((cols) ≤ (j)) = false := decide_eq_false (by omega)
 refine wp_region_below (by kernel_rfl) (by kernel_rfl) ?_
 repeat (go_big_quiet_step (fail))
 refine wpQuiet_nil ?_
 intro w2 hb2
 have S3 := Lib.hid (S2.out.bel hb2)
 clear hb2 S2
 clear hx hf hz hr hp hcl hpc hxx hfx hzx
 obtain ⟨hx, hf, hz, hr, hp, hcl, hpc⟩ := (S3.out.box (k := 0) rfl).act14
 obtain ⟨Ax, cx, hBx, -, -⟩ := S3.out.gridRd (k := 2) rfl
 obtain ⟨hxx, hfx, hzx⟩ := hBx.facts
 clear hBx
 clear hx hf hz hr hp hcl hpc hxx hfx hzx
 obtain ⟨hx, hf, hz, hr, hp, hcl, hpc⟩ := (S3.out.box (k := 0) rfl).act14
 obtain ⟨Ax, cx, hBx, -, -⟩ := S3.out.gridRd (k := 2) rfl
 obtain ⟨hxx, hfx, hzx⟩ := hBx.facts
 clear hBx
 go_upto_region 8 with (fail)
 clear hx hf hz hr hp hcl hpc hxx hfx hzx
 refine at_objsC S3.out (fun W hW => ?_)
 have HTW := Lib.hid (hW.tabs HT.out)
 have SW := Lib.hid hW
 clear hW S3
 have S4 := SW
 clear SW
 obtain ⟨hx, hf, hz, hr, hp, hcl, hpc⟩ := (S4.out.box (k := 0) rfl).act14
 obtain ⟨Ax, cx, hBx, -, -⟩ := S4.out.gridRd (k := 2) rfl
 obtain ⟨hxx, hfx, hzx⟩ := hBx.facts
 clear hBx
 have hxx0 := hx
 clear hx hf hr hp hpc
 refine wp_region_stage (w0 := W) (os := []) (by kernel_rfl) (by kernel_rfl) (by kernel_rfl) [] [[], [], [], [], [], [], [], [], [], [], [], [], [], [], [], [], [], [], [], [], [], [], [], [], [], [], []] [] (fun opn u => match opn with | 0 => u = .pointer (some ⟨b5, 5, none⟩) | 1 => u = .agg (cv y) | 2 => u = .bool true | 3 => u = .bool false | 4 => u = .bool false | 5 => u = .pointer (some ⟨b5, 5, none⟩) | 6 => u = .pointer (some ⟨b5, 9, none⟩) | 7 => u = .int .i64 y.width | 8 => u = .bool false | 9 => u = .bool false | 10 => u = .bool false | 11 => u = .pointer (some ⟨b5, 5, none⟩) | 12 => u = .pointer (some ⟨b5, 9, none⟩) | 13 => u = .int .i64 y.width | 14 => u = .bool true | 15 => u = .bool true | 16 => u = .pointer (some ⟨b5, 2, none⟩) | 17 => u = .int .i64 ↑j | 18 => u = .pointer (some ⟨x, 0, none⟩) | 19 => u = .pointer (some ⟨x, 0, none⟩) | 20 => u = .pointer (some ⟨x, 0, none⟩) | 21 => u = .int .i64 ↑cols | 22 => u = .int .i64 (↑cols - 1) | 23 => u = .bool true | 24 => u = .bool true | 25 => u = .bool true | 26 => u = .bool true | _ => True) (fun vs => []) (by kernel_rfl) (fun vs => by rfl) (objs_start W) ?_ ?_
 ·refine SSteps.cons (fun a w' vs σ hS hl hs hk => ?_) ?_
  ·have f5 : a.tmps[5]?.getD undef = .pointer (some ⟨b5, 0, none⟩) := sof hk
   exact rp (.pointer (some ⟨b5, 5, none⟩)) (by simp [execOp, Act.eval, f5, go_sem]) hl hs hS
  refine SSteps.cons (fun a w' vs σ hS hl hs hk => ?_) ?_
  ·have f63 : a.tmps[63]?.getD undef = .pointer (some ⟨b5, 5, none⟩) := sf hk 0
   have hx := (cellAt_below hS.base hz 5).trans hcl
   exact rp (.agg (cv y)) (by simp [execOp, Act.eval, f63, go_sem, hx]) hl hs hS
  refine SSteps.cons (fun a w' vs σ hS hl hs hk => ?_) ?_
  ·have e64 : a.tmps.getD 64 undef = .agg (cv y) := sv hk 1
   have f64 := gd e64
   exact ro_call (f := 72) (wanted_none rfl) rfl (by simp only [List.map_toArray, List.map_cons, List.map_nil, Act.eval, e64] <;> rfl) (fun _ _ => by kernel_rfl) ((valid_yes HVY.out w' (HTW.out.bel hS.base)).mono fun e w2 ⟨h1, h2⟩ => ⟨_, h1, sp_same (by kernel_rfl) hl hs (hS.bel h2) rfl, trivial⟩)
  refine SSteps.cons (fun a w' vs σ hS hl hs hk => ?_) ?_
  ·have f65 : a.tmps[65]?.getD undef = .bool true := sf hk 2
   exact rp (.bool false) (by simp [execOp, Act.eval, f65, go_sem]) hl hs hS
  refine SSteps.cons (fun a w' vs σ hS hl hs hk => ?_) ?_
  ·have f66 : a.tmps[66]?.getD undef = .bool false := sf hk 3
   exact rp (.bool false) (by simp [execOp, Act.eval, f66, go_sem]) hl hs hS
  refine SSteps.cons (fun a w' vs σ hS hl hs hk => ?_) ?_
  ·have f5 : a.tmps[5]?.getD undef = .pointer (some ⟨b5, 0, none⟩) := sof hk
   exact rq (.pointer (some ⟨b5, 5, none⟩)) (wanted_yes rfl rfl rfl (sv hk 4)) (by simp [execOp, Act.eval, f5, go_sem]) hl hs hS
  refine SSteps.cons (fun a w' vs σ hS hl hs hk => ?_) ?_
  ·have f68 : a.tmps[68]?.getD undef = .pointer (some ⟨b5, 5, none⟩) := sf hk 5
   exact rq (.pointer (some ⟨b5, 9, none⟩)) (wanted_yes rfl rfl rfl (sv hk 4)) (by simp [execOp, Act.eval, f68, go_sem]) hl hs hS
  refine SSteps.cons (fun a w' vs σ hS hl hs hk => ?_) ?_
  ·have f69 : a.tmps[69]?.getD undef = .pointer (some ⟨b5, 9, none⟩) := sf hk 6
   have hx := (hS.base.cell (p := ⟨b5, 9, none⟩) hz).trans (hxx0 9)
   exact rq (.int .i64 y.width) (wanted_yes rfl rfl rfl (sv hk 4)) (by simp [execOp, Act.eval, f69, go_sem, hx]) hl hs hS
  refine SSteps.cons (fun a w' vs σ hS hl hs hk => ?_) ?_
  ·have f70 : a.tmps[70]?.getD undef = .int .i64 y.width := sf hk 7
   have hw0 := HW0.out
   exact rq (.bool false) (wanted_yes rfl rfl rfl (sv hk 4)) (by simp [execOp, Act.eval, f70, go_sem, hw0]) hl hs hS
  refine SSteps.cons (fun a w' vs σ hS hl hs hk => ?_) ?_
  ·have f67 : a.tmps[67]?.getD undef = .bool false := sf hk 4
   have f71 : a.tmps[71]?.getD undef = .bool false := sf hk 8
   exact rp (.bool false) (by simp [execOp, Act.eval, f67, f71, go_sem]) hl hs hS
  refine SSteps.cons (fun a w' vs σ hS hl hs hk => ?_) ?_
  ·have f72 : a.tmps[72]?.getD undef = .bool false := sf hk 9
   exact rp (.bool false) (by simp [execOp, Act.eval, f72, go_sem]) hl hs hS
  refine SSteps.cons (fun a w' vs σ hS hl hs hk => ?_) ?_
  ·have f5 : a.tmps[5]?.getD undef = .pointer (some ⟨b5, 0, none⟩) := sof hk
   exact rq (.pointer (some ⟨b5, 5, none⟩)) (wanted_yes rfl rfl rfl (sv hk 10)) (by simp [execOp, Act.eval, f5, go_sem]) hl hs hS
  refine SSteps.cons (fun a w' vs σ hS hl hs hk => ?_) ?_
  ·have f74 : a.tmps[74]?.getD undef = .pointer (some ⟨b5, 5, none⟩) := sf hk 11
   exact rq (.pointer (some ⟨b5, 9, none⟩)) (wanted_yes rfl rfl rfl (sv hk 10)) (by simp [execOp, Act.eval, f74, go_sem]) hl hs hS
  refine SSteps.cons (fun a w' vs σ hS hl hs hk => ?_) ?_
  ·have f75 : a.tmps[75]?.getD undef = .pointer (some ⟨b5, 9, none⟩) := sf hk 12
   have hx := (hS.base.cell (p := ⟨b5, 9, none⟩) hz).trans (hxx0 9)
   exact rq (.int .i64 y.width) (wanted_yes rfl rfl rfl (sv hk 10)) (by simp [execOp, Act.eval, f75, go_sem, hx]) hl hs hS
  refine SSteps.cons (fun a w' vs σ hS hl hs hk => ?_) ?_
  ·have f76 : a.tmps[76]?.getD undef = .int .i64 y.width := sf hk 13
   have hw2 := HW2.out
   exact rq (.bool true) (wanted_yes rfl rfl rfl (sv hk 10)) (by simp [execOp, Act.eval, f76, go_sem, hw2]) hl hs hS
  refine SSteps.cons (fun a w' vs σ hS hl hs hk => ?_) ?_
  ·have f77 : a.tmps[77]?.getD undef = .bool true := sf hk 14
   exact rq (.bool true) (wanted_yes rfl rfl rfl (sv hk 10)) (by simp [execOp, Act.eval, f77, go_sem]) hl hs hS
  refine SSteps.cons (fun a w' vs σ hS hl hs hk => ?_) ?_
  ·have f5 : a.tmps[5]?.getD undef = .pointer (some ⟨b5, 0, none⟩) := sof hk
   exact rq (.pointer (some ⟨b5, 2, none⟩)) (wanted_yes rfl rfl rfl (sv hk 15)) (by simp [execOp, Act.eval, f5, go_sem]) hl hs hS
  refine SSteps.cons (fun a w' vs σ hS hl hs hk => ?_) ?_
  ·have f79 : a.tmps[79]?.getD undef = .pointer (some ⟨b5, 2, none⟩) := sf hk 16
   have hx := (hS.base.cell (p := ⟨b5, 2, none⟩) hz).trans (hxx0 2)
   exact rq (.int .i64 ↑j) (wanted_yes rfl rfl rfl (sv hk 15)) (by simp [execOp, Act.eval, f79, go_sem, hx]) hl hs hS
  refine SSteps.cons (fun a w' vs σ hS hl hs hk => ?_) ?_
  ·have f1 : a.tmps[1]?.getD undef = .pointer (some ⟨x, 0, none⟩) := sof hk
   exact rq (.pointer (some ⟨x, 0, none⟩)) (wanted_yes rfl rfl rfl (sv hk 15)) (by simp [execOp, Act.eval, f1, go_sem]) hl hs hS
  refine SSteps.cons (fun a w' vs σ hS hl hs hk => ?_) ?_
  ·have f81 : a.tmps[81]?.getD undef = .pointer (some ⟨x, 0, none⟩) := sf hk 18
   exact rq (.pointer (some ⟨x, 0, none⟩)) (wanted_yes rfl rfl rfl (sv hk 15)) (by simp [execOp, Act.eval, f81, go_sem]) hl hs hS
  refine SSteps.cons (fun a w' vs σ hS hl hs hk => ?_) ?_
  ·have f82 : a.tmps[82]?.getD undef = .pointer (some ⟨x, 0, none⟩) := sf hk 19
   exact rq (.pointer (some ⟨x, 0, none⟩)) (wanted_yes rfl rfl rfl (sv hk 15)) (by simp [execOp, Act.eval, f82, go_sem]) hl hs hS
  refine SSteps.cons (fun a w' vs σ hS hl hs hk => ?_) ?_
  ·have f83 : a.tmps[83]?.getD undef = .pointer (some ⟨x, 0, none⟩) := sf hk 20
   have hx := (hS.base.cell (p := ⟨x, 0, none⟩) hzx).trans (hxx 0)
   exact rq (.int .i64 ↑cols) (wanted_yes rfl rfl rfl (sv hk 15)) (by simp [execOp, Act.eval, f83, go_sem, hx]) hl hs hS
  refine SSteps.cons (fun a w' vs σ hS hl hs hk => ?_) ?_
  ·have f84 : a.tmps[84]?.getD undef = .int .i64 ↑cols := sf hk 21
   exact rq (.int .i64 (↑cols - 1)) (wanted_yes rfl rfl rfl (sv hk 15)) (by simp [execOp, Act.eval, f84, go_sem, HWC.out]) hl hs hS
  refine SSteps.cons (fun a w' vs σ hS hl hs hk => ?_) ?_
  ·have f80 : a.tmps[80]?.getD undef = .int .i64 ↑j := sf hk 17
   have f85 : a.tmps[85]?.getD undef = .int .i64 (↑cols - 1) := sf hk 22
   have hwide := HWD.out
   exact rq (.bool true) (wanted_yes rfl rfl rfl (sv hk 15)) (by simp [execOp, Act.eval, f80, f85, go_sem, hwide]) hl hs hS
  refine SSteps.cons (fun a w' vs σ hS hl hs hk => ?_) ?_
  ·have f78 : a.tmps[78]?.getD undef = .bool true := sf hk 15
   have f86 : a.tmps[86]?.getD undef = .bool true := sf hk 23
   exact rq (.bool true) (wanted_yes rfl rfl rfl (sv hk 10)) (by simp [execOp, Act.eval, f78, f86, go_sem]) hl hs hS
  refine SSteps.cons (fun a w' vs σ hS hl hs hk => ?_) ?_
  ·have f73 : a.tmps[73]?.getD undef = .bool false := sf hk 10
   have f87 : a.tmps[87]?.getD undef = .bool true := sf hk 24
   exact rp (.bool true) (by simp [execOp, Act.eval, f73, f87, go_sem]) hl hs hS
  refine SSteps.cons (fun a w' vs σ hS hl hs hk => ?_) ?_
  ·have f88 : a.tmps[88]?.getD undef = .bool true := sf hk 25
   exact rp (.bool true) (by simp [execOp, Act.eval, f88, go_sem]) hl hs hS
  exact SSteps.nil
 ·intro vs w' hS hv
  have q0 : vs 0 = .pointer (some ⟨b5, 5, none⟩) := hv 0 (by decide)
  have q1 : vs 1 = .agg (cv y) := hv 1 (by decide)
  have q2 : vs 2 = .bool true := hv 2 (by decide)
  have q3 : vs 3 = .bool false := hv 3 (by decide)
  have q4 : vs 4 = .bool false := hv 4 (by decide)
  have q5 : vs 5 = .pointer (some ⟨b5, 5, none⟩) := hv 5 (by decide)
  have q6 : vs 6 = .pointer (some ⟨b5, 9, none⟩) := hv 6 (by decide)
  have q7 : vs 7 = .int .i64 y.width := hv 7 (by decide)
  have q8 : vs 8 = .bool false := hv 8 (by decide)
  have q9 : vs 9 = .bool false := hv 9 (by decide)
  have q10 : vs 10 = .bool false := hv 10 (by decide)
  have q11 : vs 11 = .pointer (some ⟨b5, 5, none⟩) := hv 11 (by decide)
  have q12 : vs 12 = .pointer (some ⟨b5, 9, none⟩) := hv 12 (by decide)
  have q13 : vs 13 = .int .i64 y.width := hv 13 (by decide)
  have q14 : vs 14 = .bool true := hv 14 (by decide)
  have q15 : vs 15 = .bool true := hv 15 (by decide)
  have q16 : vs 16 = .pointer (some ⟨b5, 2, none⟩) := hv 16 (by decide)
  have q17 : vs 17 = .int .i64 ↑j := hv 17 (by decide)
  have q18 : vs 18 = .pointer (some ⟨x, 0, none⟩) := hv 18 (by decide)
  have q19 : vs 19 = .pointer (some ⟨x, 0, none⟩) := hv 19 (by decide)
  have q20 : vs 20 = .pointer (some ⟨x, 0, none⟩) := hv 20 (by decide)
  have q21 : vs 21 = .int .i64 ↑cols := hv 21 (by decide)
  have q22 : vs 22 = .int .i64 (↑cols - 1) := hv 22 (by decide)
  have q23 : vs 23 = .bool true := hv 23 (by decide)
  have q24 : vs 24 = .bool true := hv 24 (by decide)
  have q25 : vs 25 = .bool true := hv 25 (by decide)
  have q26 : vs 26 = .bool true := hv 26 (by decide)
  have S2 := Lib.hid hS
  simp only [putL, Act.put, Nat.zero_add, Nat.reduceAdd, List.setIfInBounds_toArray, List.set_cons_succ, List.set_cons_zero, q0, q1, q2, q3, q4, q5, q6, q7, q8, q9, q10, q11, q12, q13, q14, q15, q16, q17, q18, q19, q20, q21, q22, q23, q24, q25, q26]
  clear hS hv q0 q1 q2 q3 q4 q5 q6 q7 q8 q9 q10 q11 q12 q13 q14 q15 q16 q17 q18 q19 q20 q21 q22 q23 q24 q25 q26
  have S99 := Lib.hid (S4.out.bel S2.out.base)
  clear S2 HTW hz hcl hxx hfx hzx hxx0 S4
  obtain ⟨hx, hf, hz, hr, hp, hcl, hpc⟩ := (S99.out.box (k := 0) rfl).act14
  obtain ⟨Ax, cx, hBx, -, -⟩ := S99.out.gridRd (k := 2) rfl
  obtain ⟨hxx, hfx, hzx⟩ := hBx.facts
  clear hBx
  go_wp2_with fail
  have hcon := PutN y HT.out S99.out (k := 1) rfl hc hcm (row := ↑row) (col := ↑j) (by rw [HE.out]; decide)
  rw [HE.out] at hcon
  refine hcon.mono ?_
  rintro e w3 ⟨rfl, hS⟩
  have S100 := Lib.hid hS
  clear hS hcon S99
  clear hx hf hz hr hp hcl hpc hxx hfx hzx
  obtain ⟨hx, hf, hz, hr, hp, hcl, hpc⟩ := (S100.out.box (k := 0) rfl).act14
  obtain ⟨Ax, cx, hBx, -, -⟩ := S100.out.gridRd (k := 2) rfl
  obtain ⟨hxx, hfx, hzx⟩ := hBx.facts
  clear hBx
  go_wp2_with fail
  go_ret
  exact ⟨rfl, by rw [HN.out]; exact S100.out.tail⟩
set_option maxRecDepth 100000 in
set_option maxHeartbeats 8000000 in
theorem does_put_one (row : Nat) (h0 : row < L.length) (cb n : Int) (y : Cell) (A : Option Addr) (c : Nat) (cs : List Cell) (soft : Bool) (q : Pen) (hT : Tabs w0) (hS : Objs w0 w (.grid p 58 cols L :: .grid x 33 cols L :: os)) (hc : 0 < cols) (hcm : cols ≤ 1000) (hR : Rect cols L) (hL : 0 < L.length) (hLm : L.length ≤ 1000) (hA : RdC w0 A c cs) (hlc : cs.length ≤ 100000) (ib : -9223372036854775808 ≤ cb ∧ cb ≤ 9223372036854775807) (i_n : -9223372036854775808 ≤ n ∧ n ≤ 9223372036854775807) (j : Nat) (hj : j < cols) (hv : y.ok = true) (hw1 : y.width = 1) :
  Calls Tryd.prog 43 #[.pointer (some ⟨p, 0, none⟩), .pointer (some ⟨x, 0, none⟩), .agg (av14 ⟨0, ↑row, ↑j, cb, n, y, A, c, cs, soft, q⟩)] w fun e w' => e = .returned (.bool true) ∧ Objs w0 w' (.grid p 58 cols (act14N ⟨0, ↑row, ↑j, cb, n, y, A, c, cs, soft, q⟩ cols L) :: .grid x 33 cols (act14N ⟨0, ↑row, ↑j, cb, n, y, A, c, cs, soft, q⟩ cols L) :: os) := by
 have HT := Lib.hid hT
 have S0 := Lib.hid hS
 have HR := Lib.hid hR
 have HA := Lib.hid hA
 have HM := Lib.hid (hR.mill hcm)
 have hlm2 : L.length ≤ 100000 := by omega
 have hlm3 : L.length ≤ 1000000 := by omega
 have HIB := Lib.hid ib
 have HIN := Lib.hid i_n
 clear hT hS hR hA ib i_n
 have HE := Lib.hid (show putE ↑row ↑j y cols L.length = 0 by have hh : here14 (row : Int) L.length = true := decide_eq_true (by omega); unfold putE; rw [if_neg (fun h => h ⟨hh, by omega, by omega⟩), if_neg (fun h => h ⟨hv, by omega, by omega⟩)])
 have HN := Lib.hid (show act14N ⟨0, ↑row, ↑j, cb, n, y, A, c, cs, soft, q⟩ cols L = rowMod row (putC j y) L by simp [act14N, HE.out])
 have HVY := Lib.hid hv
 have HW0 := Lib.hid (show ¬ y.width = 0 by omega)
 have HW2 := Lib.hid (show ¬ y.width = 2 by omega)
 have HFT := Lib.hid (show (j : Int) + y.width ≤ cols by omega)
 clear hv hw1
 have HWC := Lib.hid (show IntKind.i64.wrap ((cols : Int) - 1) = (cols : Int) - 1 from IntWalk.i64_in _ (by omega))
 go_enter Tryd.func43, Tryd.ntmps43
 go_upto_region 1 with (fail)
 refine at_objsC S0.out.alloc1 (fun W hW => ?_)
 generalize w.heap.size = b5 at hW ⊢
 have S1 := Lib.hid hW
 clear hW S0
 obtain ⟨hx, hf, hz, hr, hp, hcl, hpc⟩ := (S1.out.box (k := 0) rfl).act14
 obtain ⟨Ax, cx, hBx, -, -⟩ := S1.out.gridRd (k := 2) rfl
 obtain ⟨hxx, hfx, hzx⟩ := hBx.facts
 clear hBx
 have d1 : decide ((0 : Int) ≤ (row : Int)) = true := decide_eq_true (by omega)
 have d2 : decide ((row : Int) < (L.length : Int)) = true := decide_eq_true (by omega)
 refine wp_region_below (by kernel_rfl) (by kernel_rfl) ?_
 repeat (go_big_quiet_step (fail))
 refine wpQuiet_nil ?_
 intro w2 hb2
 have S2 := Lib.hid (S1.out.bel hb2)
 clear hb2 S1
 clear hx hf hz hr hp hcl hpc hxx hfx hzx
 obtain ⟨hx, hf, hz, hr, hp, hcl, hpc⟩ := (S2.out.box (k := 0) rfl).act14
 obtain ⟨Ax, cx, hBx, -, -⟩ := S2.out.gridRd (k := 2) rfl
 obtain ⟨hxx, hfx, hzx⟩ := hBx.facts
 clear hBx
 go_wp2_with fail
 have d3 : decide ((j : Int) < (0 : Int)) = false := decide_eq_false (by omega)
 have d4 : decide ((cols : Int) ≤ (j : Int)) = false := decide_eq_false (by omega)
 have d4n : decide ((cols) ≤ (j)) = false := decide_eq_false (by omega)
 refine wp_region_below (by kernel_rfl) (by kernel_rfl) ?_
 repeat (go_big_quiet_step (fail))
 refine wpQuiet_nil ?_
 intro w2 hb2
 have S3 := Lib.hid (S2.out.bel hb2)
 clear hb2 S2
 clear hx hf hz hr hp hcl hpc hxx hfx hzx
 obtain ⟨hx, hf, hz, hr, hp, hcl, hpc⟩ := (S3.out.box (k := 0) rfl).act14
 obtain ⟨Ax, cx, hBx, -, -⟩ := S3.out.gridRd (k := 2) rfl
 obtain ⟨hxx, hfx, hzx⟩ := hBx.facts
 clear hBx
 clear hx hf hz hr hp hcl hpc hxx hfx hzx
 obtain ⟨hx, hf, hz, hr, hp, hcl, hpc⟩ := (S3.out.box (k := 0) rfl).act14
 obtain ⟨Ax, cx, hBx, -, -⟩ := S3.out.gridRd (k := 2) rfl
 obtain ⟨hxx, hfx, hzx⟩ := hBx.facts
 clear hBx
 go_upto_region 8 with (fail)
 clear hx hf hz hr hp hcl hpc hxx hfx hzx
 refine at_objsC S3.out (fun W hW => ?_)
 have HTW := Lib.hid (hW.tabs HT.out)
 have SW := Lib.hid hW
 clear hW S3
 have S4 := SW
 clear SW
 obtain ⟨hx, hf, hz, hr, hp, hcl, hpc⟩ := (S4.out.box (k := 0) rfl).act14
 obtain ⟨Ax, cx, hBx, -, -⟩ := S4.out.gridRd (k := 2) rfl
 obtain ⟨hxx, hfx, hzx⟩ := hBx.facts
 clear hBx
 have hxx0 := hx
 clear hx hf hr hp hpc
 refine wp_region_stage (w0 := W) (os := []) (by kernel_rfl) (by kernel_rfl) (by kernel_rfl) [] [[], [], [], [], [], [], [], [], [], [], [], [], [], [], [], [], [], [], [], [], [], [], [], [], [], [], []] [] (fun opn u => match opn with | 0 => u = .pointer (some ⟨b5, 5, none⟩) | 1 => u = .agg (cv y) | 2 => u = .bool true | 3 => u = .bool false | 4 => u = .bool false | 5 => u = .pointer (some ⟨b5, 5, none⟩) | 6 => u = .pointer (some ⟨b5, 9, none⟩) | 7 => u = .int .i64 y.width | 8 => u = .bool false | 9 => u = .bool false | 10 => u = .bool false | 11 => u = .pointer (some ⟨b5, 5, none⟩) | 12 => u = .pointer (some ⟨b5, 9, none⟩) | 13 => u = .int .i64 y.width | 14 => u = .bool false | 15 => u = .bool false | 16 => u = (undef : Value) | 17 => u = (undef : Value) | 18 => u = (undef : Value) | 19 => u = (undef : Value) | 20 => u = (undef : Value) | 21 => u = (undef : Value) | 22 => u = (undef : Value) | 23 => u = (undef : Value) | 24 => u = .bool false | 25 => u = .bool false | 26 => u = .bool false | _ => True) (fun vs => []) (by kernel_rfl) (fun vs => by rfl) (objs_start W) ?_ ?_
 ·refine SSteps.cons (fun a w' vs σ hS hl hs hk => ?_) ?_
  ·have f5 : a.tmps[5]?.getD undef = .pointer (some ⟨b5, 0, none⟩) := sof hk
   exact rp (.pointer (some ⟨b5, 5, none⟩)) (by simp [execOp, Act.eval, f5, go_sem]) hl hs hS
  refine SSteps.cons (fun a w' vs σ hS hl hs hk => ?_) ?_
  ·have f63 : a.tmps[63]?.getD undef = .pointer (some ⟨b5, 5, none⟩) := sf hk 0
   have hx := (cellAt_below hS.base hz 5).trans hcl
   exact rp (.agg (cv y)) (by simp [execOp, Act.eval, f63, go_sem, hx]) hl hs hS
  refine SSteps.cons (fun a w' vs σ hS hl hs hk => ?_) ?_
  ·have e64 : a.tmps.getD 64 undef = .agg (cv y) := sv hk 1
   have f64 := gd e64
   exact ro_call (f := 72) (wanted_none rfl) rfl (by simp only [List.map_toArray, List.map_cons, List.map_nil, Act.eval, e64] <;> rfl) (fun _ _ => by kernel_rfl) ((valid_yes HVY.out w' (HTW.out.bel hS.base)).mono fun e w2 ⟨h1, h2⟩ => ⟨_, h1, sp_same (by kernel_rfl) hl hs (hS.bel h2) rfl, trivial⟩)
  refine SSteps.cons (fun a w' vs σ hS hl hs hk => ?_) ?_
  ·have f65 : a.tmps[65]?.getD undef = .bool true := sf hk 2
   exact rp (.bool false) (by simp [execOp, Act.eval, f65, go_sem]) hl hs hS
  refine SSteps.cons (fun a w' vs σ hS hl hs hk => ?_) ?_
  ·have f66 : a.tmps[66]?.getD undef = .bool false := sf hk 3
   exact rp (.bool false) (by simp [execOp, Act.eval, f66, go_sem]) hl hs hS
  refine SSteps.cons (fun a w' vs σ hS hl hs hk => ?_) ?_
  ·have f5 : a.tmps[5]?.getD undef = .pointer (some ⟨b5, 0, none⟩) := sof hk
   exact rq (.pointer (some ⟨b5, 5, none⟩)) (wanted_yes rfl rfl rfl (sv hk 4)) (by simp [execOp, Act.eval, f5, go_sem]) hl hs hS
  refine SSteps.cons (fun a w' vs σ hS hl hs hk => ?_) ?_
  ·have f68 : a.tmps[68]?.getD undef = .pointer (some ⟨b5, 5, none⟩) := sf hk 5
   exact rq (.pointer (some ⟨b5, 9, none⟩)) (wanted_yes rfl rfl rfl (sv hk 4)) (by simp [execOp, Act.eval, f68, go_sem]) hl hs hS
  refine SSteps.cons (fun a w' vs σ hS hl hs hk => ?_) ?_
  ·have f69 : a.tmps[69]?.getD undef = .pointer (some ⟨b5, 9, none⟩) := sf hk 6
   have hx := (hS.base.cell (p := ⟨b5, 9, none⟩) hz).trans (hxx0 9)
   exact rq (.int .i64 y.width) (wanted_yes rfl rfl rfl (sv hk 4)) (by simp [execOp, Act.eval, f69, go_sem, hx]) hl hs hS
  refine SSteps.cons (fun a w' vs σ hS hl hs hk => ?_) ?_
  ·have f70 : a.tmps[70]?.getD undef = .int .i64 y.width := sf hk 7
   have hw0 := HW0.out
   exact rq (.bool false) (wanted_yes rfl rfl rfl (sv hk 4)) (by simp [execOp, Act.eval, f70, go_sem, hw0]) hl hs hS
  refine SSteps.cons (fun a w' vs σ hS hl hs hk => ?_) ?_
  ·have f67 : a.tmps[67]?.getD undef = .bool false := sf hk 4
   have f71 : a.tmps[71]?.getD undef = .bool false := sf hk 8
   exact rp (.bool false) (by simp [execOp, Act.eval, f67, f71, go_sem]) hl hs hS
  refine SSteps.cons (fun a w' vs σ hS hl hs hk => ?_) ?_
  ·have f72 : a.tmps[72]?.getD undef = .bool false := sf hk 9
   exact rp (.bool false) (by simp [execOp, Act.eval, f72, go_sem]) hl hs hS
  refine SSteps.cons (fun a w' vs σ hS hl hs hk => ?_) ?_
  ·have f5 : a.tmps[5]?.getD undef = .pointer (some ⟨b5, 0, none⟩) := sof hk
   exact rq (.pointer (some ⟨b5, 5, none⟩)) (wanted_yes rfl rfl rfl (sv hk 10)) (by simp [execOp, Act.eval, f5, go_sem]) hl hs hS
  refine SSteps.cons (fun a w' vs σ hS hl hs hk => ?_) ?_
  ·have f74 : a.tmps[74]?.getD undef = .pointer (some ⟨b5, 5, none⟩) := sf hk 11
   exact rq (.pointer (some ⟨b5, 9, none⟩)) (wanted_yes rfl rfl rfl (sv hk 10)) (by simp [execOp, Act.eval, f74, go_sem]) hl hs hS
  refine SSteps.cons (fun a w' vs σ hS hl hs hk => ?_) ?_
  ·have f75 : a.tmps[75]?.getD undef = .pointer (some ⟨b5, 9, none⟩) := sf hk 12
   have hx := (hS.base.cell (p := ⟨b5, 9, none⟩) hz).trans (hxx0 9)
   exact rq (.int .i64 y.width) (wanted_yes rfl rfl rfl (sv hk 10)) (by simp [execOp, Act.eval, f75, go_sem, hx]) hl hs hS
  refine SSteps.cons (fun a w' vs σ hS hl hs hk => ?_) ?_
  ·have f76 : a.tmps[76]?.getD undef = .int .i64 y.width := sf hk 13
   have hw2 := HW2.out
   exact rq (.bool false) (wanted_yes rfl rfl rfl (sv hk 10)) (by simp [execOp, Act.eval, f76, go_sem, hw2]) hl hs hS
  refine SSteps.cons (fun a w' vs σ hS hl hs hk => ?_) ?_
  ·have f77 : a.tmps[77]?.getD undef = .bool false := sf hk 14
   exact rq (.bool false) (wanted_yes rfl rfl rfl (sv hk 10)) (by simp [execOp, Act.eval, f77, go_sem]) hl hs hS
  refine SSteps.cons (fun a w' vs σ hS hl hs hk => ?_) ?_
  ·exact rs_skip (wanted_no rfl rfl rfl (sv hk 15) (by decide)) (sp_same (by kernel_rfl) hl hs hS rfl)
  refine SSteps.cons (fun a w' vs σ hS hl hs hk => ?_) ?_
  ·exact rs_skip (wanted_no rfl rfl rfl (sv hk 15) (by decide)) (sp_same (by kernel_rfl) hl hs hS rfl)
  refine SSteps.cons (fun a w' vs σ hS hl hs hk => ?_) ?_
  ·exact rs_skip (wanted_no rfl rfl rfl (sv hk 15) (by decide)) (sp_same (by kernel_rfl) hl hs hS rfl)
  refine SSteps.cons (fun a w' vs σ hS hl hs hk => ?_) ?_
  ·exact rs_skip (wanted_no rfl rfl rfl (sv hk 15) (by decide)) (sp_same (by kernel_rfl) hl hs hS rfl)
  refine SSteps.cons (fun a w' vs σ hS hl hs hk => ?_) ?_
  ·exact rs_skip (wanted_no rfl rfl rfl (sv hk 15) (by decide)) (sp_same (by kernel_rfl) hl hs hS rfl)
  refine SSteps.cons (fun a w' vs σ hS hl hs hk => ?_) ?_
  ·exact rs_skip (wanted_no rfl rfl rfl (sv hk 15) (by decide)) (sp_same (by kernel_rfl) hl hs hS rfl)
  refine SSteps.cons (fun a w' vs σ hS hl hs hk => ?_) ?_
  ·exact rs_skip (wanted_no rfl rfl rfl (sv hk 15) (by decide)) (sp_same (by kernel_rfl) hl hs hS rfl)
  refine SSteps.cons (fun a w' vs σ hS hl hs hk => ?_) ?_
  ·exact rs_skip (wanted_no rfl rfl rfl (sv hk 15) (by decide)) (sp_same (by kernel_rfl) hl hs hS rfl)
  refine SSteps.cons (fun a w' vs σ hS hl hs hk => ?_) ?_
  ·have f78 : a.tmps[78]?.getD undef = .bool false := sf hk 15
   have f86 : a.tmps[86]?.getD undef = (undef : Value) := sf hk 23
   exact rq (.bool false) (wanted_yes rfl rfl rfl (sv hk 10)) (by simp [execOp, Act.eval, f78, f86, go_sem]) hl hs hS
  refine SSteps.cons (fun a w' vs σ hS hl hs hk => ?_) ?_
  ·have f73 : a.tmps[73]?.getD undef = .bool false := sf hk 10
   have f87 : a.tmps[87]?.getD undef = .bool false := sf hk 24
   exact rp (.bool false) (by simp [execOp, Act.eval, f73, f87, go_sem]) hl hs hS
  refine SSteps.cons (fun a w' vs σ hS hl hs hk => ?_) ?_
  ·have f88 : a.tmps[88]?.getD undef = .bool false := sf hk 25
   exact rp (.bool false) (by simp [execOp, Act.eval, f88, go_sem]) hl hs hS
  exact SSteps.nil
 ·intro vs w' hS hv
  have q0 : vs 0 = .pointer (some ⟨b5, 5, none⟩) := hv 0 (by decide)
  have q1 : vs 1 = .agg (cv y) := hv 1 (by decide)
  have q2 : vs 2 = .bool true := hv 2 (by decide)
  have q3 : vs 3 = .bool false := hv 3 (by decide)
  have q4 : vs 4 = .bool false := hv 4 (by decide)
  have q5 : vs 5 = .pointer (some ⟨b5, 5, none⟩) := hv 5 (by decide)
  have q6 : vs 6 = .pointer (some ⟨b5, 9, none⟩) := hv 6 (by decide)
  have q7 : vs 7 = .int .i64 y.width := hv 7 (by decide)
  have q8 : vs 8 = .bool false := hv 8 (by decide)
  have q9 : vs 9 = .bool false := hv 9 (by decide)
  have q10 : vs 10 = .bool false := hv 10 (by decide)
  have q11 : vs 11 = .pointer (some ⟨b5, 5, none⟩) := hv 11 (by decide)
  have q12 : vs 12 = .pointer (some ⟨b5, 9, none⟩) := hv 12 (by decide)
  have q13 : vs 13 = .int .i64 y.width := hv 13 (by decide)
  have q14 : vs 14 = .bool false := hv 14 (by decide)
  have q15 : vs 15 = .bool false := hv 15 (by decide)
  have q16 : vs 16 = undef := hv 16 (by decide)
  have q17 : vs 17 = undef := hv 17 (by decide)
  have q18 : vs 18 = undef := hv 18 (by decide)
  have q19 : vs 19 = undef := hv 19 (by decide)
  have q20 : vs 20 = undef := hv 20 (by decide)
  have q21 : vs 21 = undef := hv 21 (by decide)
  have q22 : vs 22 = undef := hv 22 (by decide)
  have q23 : vs 23 = undef := hv 23 (by decide)
  have q24 : vs 24 = .bool false := hv 24 (by decide)
  have q25 : vs 25 = .bool false := hv 25 (by decide)
  have q26 : vs 26 = .bool false := hv 26 (by decide)
  have S2 := Lib.hid hS
  simp only [putL, Act.put, Nat.zero_add, Nat.reduceAdd, List.setIfInBounds_toArray, List.set_cons_succ, List.set_cons_zero, q0, q1, q2, q3, q4, q5, q6, q7, q8, q9, q10, q11, q12, q13, q14, q15, q16, q17, q18, q19, q20, q21, q22, q23, q24, q25, q26]
  clear hS hv q0 q1 q2 q3 q4 q5 q6 q7 q8 q9 q10 q11 q12 q13 q14 q15 q16 q17 q18 q19 q20 q21 q22 q23 q24 q25 q26
  have S99 := Lib.hid (S4.out.bel S2.out.base)
  clear S2 HTW hz hcl hxx hfx hzx hxx0 S4
  obtain ⟨hx, hf, hz, hr, hp, hcl, hpc⟩ := (S99.out.box (k := 0) rfl).act14
  obtain ⟨Ax, cx, hBx, -, -⟩ := S99.out.gridRd (k := 2) rfl
  obtain ⟨hxx, hfx, hzx⟩ := hBx.facts
  clear hBx
  go_wp2_with fail
  have hcon := r14PutG y S99.out (k := 2) rfl hcm HR.out h0 HVY.out HW0.out HFT.out
  refine hcon.mono ?_
  rintro e w3 ⟨rfl, hS⟩
  have S100 := Lib.hid hS
  clear hS hcon S99
  clear hx hf hz hr hp hcl hpc hxx hfx hzx
  obtain ⟨hx, hf, hz, hr, hp, hcl, hpc⟩ := (S100.out.box (k := 0) rfl).act14
  obtain ⟨Ax, cx, hBx, -, -⟩ := S100.out.gridRd (k := 2) rfl
  obtain ⟨hxx, hfx, hzx⟩ := hBx.facts
  clear hBx
  go_wp2_with fail
  have hcon := PutG y HT.out S100.out (k := 1) rfl hcm HR.out h0 HVY.out HW0.out HFT.out
  refine hcon.mono ?_
  rintro e w3 ⟨rfl, hS⟩
  have S101 := Lib.hid hS
  clear hS hcon S100
  clear hx hf hz hr hp hcl hpc hxx hfx hzx
  obtain ⟨hx, hf, hz, hr, hp, hcl, hpc⟩ := (S101.out.box (k := 0) rfl).act14
  obtain ⟨Ax, cx, hBx, -, -⟩ := S101.out.gridRd (k := 2) rfl
  obtain ⟨hxx, hfx, hzx⟩ := hBx.facts
  clear hBx
  go_wp2_with fail
  go_ret
  exact ⟨rfl, by rw [HN.out]; exact S101.out.tail⟩
set_option maxRecDepth 100000 in
set_option maxHeartbeats 8000000 in
theorem does_put_two (row : Nat) (h0 : row < L.length) (cb n : Int) (y : Cell) (A : Option Addr) (c : Nat) (cs : List Cell) (soft : Bool) (q : Pen) (hT : Tabs w0) (hS : Objs w0 w (.grid p 58 cols L :: .grid x 33 cols L :: os)) (hc : 0 < cols) (hcm : cols ≤ 1000) (hR : Rect cols L) (hL : 0 < L.length) (hLm : L.length ≤ 1000) (hA : RdC w0 A c cs) (hlc : cs.length ≤ 100000) (ib : -9223372036854775808 ≤ cb ∧ cb ≤ 9223372036854775807) (i_n : -9223372036854775808 ≤ n ∧ n ≤ 9223372036854775807) (j : Nat) (hj : j < cols) (hv : y.ok = true) (hw2 : y.width = 2) (hwd : j + 1 < cols) :
  Calls Tryd.prog 43 #[.pointer (some ⟨p, 0, none⟩), .pointer (some ⟨x, 0, none⟩), .agg (av14 ⟨0, ↑row, ↑j, cb, n, y, A, c, cs, soft, q⟩)] w fun e w' => e = .returned (.bool true) ∧ Objs w0 w' (.grid p 58 cols (act14N ⟨0, ↑row, ↑j, cb, n, y, A, c, cs, soft, q⟩ cols L) :: .grid x 33 cols (act14N ⟨0, ↑row, ↑j, cb, n, y, A, c, cs, soft, q⟩ cols L) :: os) := by
 have HT := Lib.hid hT
 have S0 := Lib.hid hS
 have HR := Lib.hid hR
 have HA := Lib.hid hA
 have HM := Lib.hid (hR.mill hcm)
 have hlm2 : L.length ≤ 100000 := by omega
 have hlm3 : L.length ≤ 1000000 := by omega
 have HIB := Lib.hid ib
 have HIN := Lib.hid i_n
 clear hT hS hR hA ib i_n
 have HE := Lib.hid (show putE ↑row ↑j y cols L.length = 0 by have hh : here14 (row : Int) L.length = true := decide_eq_true (by omega); unfold putE; rw [if_neg (fun h => h ⟨hh, by omega, by omega⟩), if_neg (fun h => h ⟨hv, by omega, by omega⟩)])
 have HN := Lib.hid (show act14N ⟨0, ↑row, ↑j, cb, n, y, A, c, cs, soft, q⟩ cols L = rowMod row (putC j y) L by simp [act14N, HE.out])
 have HVY := Lib.hid hv
 have HW0 := Lib.hid (show ¬ y.width = 0 by omega)
 have HW2 := Lib.hid hw2
 have HFT := Lib.hid (show (j : Int) + y.width ≤ cols by omega)
 have HWD := Lib.hid (show ¬ (j : Int) = (cols : Int) - 1 by omega)
 clear hv hw2
 have HWC := Lib.hid (show IntKind.i64.wrap ((cols : Int) - 1) = (cols : Int) - 1 from IntWalk.i64_in _ (by omega))
 go_enter Tryd.func43, Tryd.ntmps43
 go_upto_region 1 with (fail)
 refine at_objsC S0.out.alloc1 (fun W hW => ?_)
 generalize w.heap.size = b5 at hW ⊢
 have S1 := Lib.hid hW
 clear hW S0
 obtain ⟨hx, hf, hz, hr, hp, hcl, hpc⟩ := (S1.out.box (k := 0) rfl).act14
 obtain ⟨Ax, cx, hBx, -, -⟩ := S1.out.gridRd (k := 2) rfl
 obtain ⟨hxx, hfx, hzx⟩ := hBx.facts
 clear hBx
 have d1 : decide ((0 : Int) ≤ (row : Int)) = true := decide_eq_true (by omega)
 have d2 : decide ((row : Int) < (L.length : Int)) = true := decide_eq_true (by omega)
 refine wp_region_below (by kernel_rfl) (by kernel_rfl) ?_
 repeat (go_big_quiet_step (fail))
 refine wpQuiet_nil ?_
 intro w2 hb2
 have S2 := Lib.hid (S1.out.bel hb2)
 clear hb2 S1
 clear hx hf hz hr hp hcl hpc hxx hfx hzx
 obtain ⟨hx, hf, hz, hr, hp, hcl, hpc⟩ := (S2.out.box (k := 0) rfl).act14
 obtain ⟨Ax, cx, hBx, -, -⟩ := S2.out.gridRd (k := 2) rfl
 obtain ⟨hxx, hfx, hzx⟩ := hBx.facts
 clear hBx
 go_wp2_with fail
 have d3 : decide ((j : Int) < (0 : Int)) = false := decide_eq_false (by omega)
 have d4 : decide ((cols : Int) ≤ (j : Int)) = false := decide_eq_false (by omega)
 have d4n : decide ((cols) ≤ (j)) = false := decide_eq_false (by omega)
 refine wp_region_below (by kernel_rfl) (by kernel_rfl) ?_
 repeat (go_big_quiet_step (fail))
 refine wpQuiet_nil ?_
 intro w2 hb2
 have S3 := Lib.hid (S2.out.bel hb2)
 clear hb2 S2
 clear hx hf hz hr hp hcl hpc hxx hfx hzx
 obtain ⟨hx, hf, hz, hr, hp, hcl, hpc⟩ := (S3.out.box (k := 0) rfl).act14
 obtain ⟨Ax, cx, hBx, -, -⟩ := S3.out.gridRd (k := 2) rfl
 obtain ⟨hxx, hfx, hzx⟩ := hBx.facts
 clear hBx
 clear hx hf hz hr hp hcl hpc hxx hfx hzx
 obtain ⟨hx, hf, hz, hr, hp, hcl, hpc⟩ := (S3.out.box (k := 0) rfl).act14
 obtain ⟨Ax, cx, hBx, -, -⟩ := S3.out.gridRd (k := 2) rfl
 obtain ⟨hxx, hfx, hzx⟩ := hBx.facts
 clear hBx
 go_upto_region 8 with (fail)
 clear hx hf hz hr hp hcl hpc hxx hfx hzx
 refine at_objsC S3.out (fun W hW => ?_)
 have HTW := Lib.hid (hW.tabs HT.out)
 have SW := Lib.hid hW
 clear hW S3
 have S4 := SW
 clear SW
 obtain ⟨hx, hf, hz, hr, hp, hcl, hpc⟩ := (S4.out.box (k := 0) rfl).act14
 obtain ⟨Ax, cx, hBx, -, -⟩ := S4.out.gridRd (k := 2) rfl
 obtain ⟨hxx, hfx, hzx⟩ := hBx.facts
 clear hBx
 have hxx0 := hx
 clear hx hf hr hp hpc
 refine wp_region_stage (w0 := W) (os := []) (by kernel_rfl) (by kernel_rfl) (by kernel_rfl) [] [[], [], [], [], [], [], [], [], [], [], [], [], [], [], [], [], [], [], [], [], [], [], [], [], [], [], []] [] (fun opn u => match opn with | 0 => u = .pointer (some ⟨b5, 5, none⟩) | 1 => u = .agg (cv y) | 2 => u = .bool true | 3 => u = .bool false | 4 => u = .bool false | 5 => u = .pointer (some ⟨b5, 5, none⟩) | 6 => u = .pointer (some ⟨b5, 9, none⟩) | 7 => u = .int .i64 y.width | 8 => u = .bool false | 9 => u = .bool false | 10 => u = .bool false | 11 => u = .pointer (some ⟨b5, 5, none⟩) | 12 => u = .pointer (some ⟨b5, 9, none⟩) | 13 => u = .int .i64 y.width | 14 => u = .bool true | 15 => u = .bool true | 16 => u = .pointer (some ⟨b5, 2, none⟩) | 17 => u = .int .i64 ↑j | 18 => u = .pointer (some ⟨x, 0, none⟩) | 19 => u = .pointer (some ⟨x, 0, none⟩) | 20 => u = .pointer (some ⟨x, 0, none⟩) | 21 => u = .int .i64 ↑cols | 22 => u = .int .i64 (↑cols - 1) | 23 => u = .bool false | 24 => u = .bool false | 25 => u = .bool false | 26 => u = .bool false | _ => True) (fun vs => []) (by kernel_rfl) (fun vs => by rfl) (objs_start W) ?_ ?_
 ·refine SSteps.cons (fun a w' vs σ hS hl hs hk => ?_) ?_
  ·have f5 : a.tmps[5]?.getD undef = .pointer (some ⟨b5, 0, none⟩) := sof hk
   exact rp (.pointer (some ⟨b5, 5, none⟩)) (by simp [execOp, Act.eval, f5, go_sem]) hl hs hS
  refine SSteps.cons (fun a w' vs σ hS hl hs hk => ?_) ?_
  ·have f63 : a.tmps[63]?.getD undef = .pointer (some ⟨b5, 5, none⟩) := sf hk 0
   have hx := (cellAt_below hS.base hz 5).trans hcl
   exact rp (.agg (cv y)) (by simp [execOp, Act.eval, f63, go_sem, hx]) hl hs hS
  refine SSteps.cons (fun a w' vs σ hS hl hs hk => ?_) ?_
  ·have e64 : a.tmps.getD 64 undef = .agg (cv y) := sv hk 1
   have f64 := gd e64
   exact ro_call (f := 72) (wanted_none rfl) rfl (by simp only [List.map_toArray, List.map_cons, List.map_nil, Act.eval, e64] <;> rfl) (fun _ _ => by kernel_rfl) ((valid_yes HVY.out w' (HTW.out.bel hS.base)).mono fun e w2 ⟨h1, h2⟩ => ⟨_, h1, sp_same (by kernel_rfl) hl hs (hS.bel h2) rfl, trivial⟩)
  refine SSteps.cons (fun a w' vs σ hS hl hs hk => ?_) ?_
  ·have f65 : a.tmps[65]?.getD undef = .bool true := sf hk 2
   exact rp (.bool false) (by simp [execOp, Act.eval, f65, go_sem]) hl hs hS
  refine SSteps.cons (fun a w' vs σ hS hl hs hk => ?_) ?_
  ·have f66 : a.tmps[66]?.getD undef = .bool false := sf hk 3
   exact rp (.bool false) (by simp [execOp, Act.eval, f66, go_sem]) hl hs hS
  refine SSteps.cons (fun a w' vs σ hS hl hs hk => ?_) ?_
  ·have f5 : a.tmps[5]?.getD undef = .pointer (some ⟨b5, 0, none⟩) := sof hk
   exact rq (.pointer (some ⟨b5, 5, none⟩)) (wanted_yes rfl rfl rfl (sv hk 4)) (by simp [execOp, Act.eval, f5, go_sem]) hl hs hS
  refine SSteps.cons (fun a w' vs σ hS hl hs hk => ?_) ?_
  ·have f68 : a.tmps[68]?.getD undef = .pointer (some ⟨b5, 5, none⟩) := sf hk 5
   exact rq (.pointer (some ⟨b5, 9, none⟩)) (wanted_yes rfl rfl rfl (sv hk 4)) (by simp [execOp, Act.eval, f68, go_sem]) hl hs hS
  refine SSteps.cons (fun a w' vs σ hS hl hs hk => ?_) ?_
  ·have f69 : a.tmps[69]?.getD undef = .pointer (some ⟨b5, 9, none⟩) := sf hk 6
   have hx := (hS.base.cell (p := ⟨b5, 9, none⟩) hz).trans (hxx0 9)
   exact rq (.int .i64 y.width) (wanted_yes rfl rfl rfl (sv hk 4)) (by simp [execOp, Act.eval, f69, go_sem, hx]) hl hs hS
  refine SSteps.cons (fun a w' vs σ hS hl hs hk => ?_) ?_
  ·have f70 : a.tmps[70]?.getD undef = .int .i64 y.width := sf hk 7
   have hw0 := HW0.out
   exact rq (.bool false) (wanted_yes rfl rfl rfl (sv hk 4)) (by simp [execOp, Act.eval, f70, go_sem, hw0]) hl hs hS
  refine SSteps.cons (fun a w' vs σ hS hl hs hk => ?_) ?_
  ·have f67 : a.tmps[67]?.getD undef = .bool false := sf hk 4
   have f71 : a.tmps[71]?.getD undef = .bool false := sf hk 8
   exact rp (.bool false) (by simp [execOp, Act.eval, f67, f71, go_sem]) hl hs hS
  refine SSteps.cons (fun a w' vs σ hS hl hs hk => ?_) ?_
  ·have f72 : a.tmps[72]?.getD undef = .bool false := sf hk 9
   exact rp (.bool false) (by simp [execOp, Act.eval, f72, go_sem]) hl hs hS
  refine SSteps.cons (fun a w' vs σ hS hl hs hk => ?_) ?_
  ·have f5 : a.tmps[5]?.getD undef = .pointer (some ⟨b5, 0, none⟩) := sof hk
   exact rq (.pointer (some ⟨b5, 5, none⟩)) (wanted_yes rfl rfl rfl (sv hk 10)) (by simp [execOp, Act.eval, f5, go_sem]) hl hs hS
  refine SSteps.cons (fun a w' vs σ hS hl hs hk => ?_) ?_
  ·have f74 : a.tmps[74]?.getD undef = .pointer (some ⟨b5, 5, none⟩) := sf hk 11
   exact rq (.pointer (some ⟨b5, 9, none⟩)) (wanted_yes rfl rfl rfl (sv hk 10)) (by simp [execOp, Act.eval, f74, go_sem]) hl hs hS
  refine SSteps.cons (fun a w' vs σ hS hl hs hk => ?_) ?_
  ·have f75 : a.tmps[75]?.getD undef = .pointer (some ⟨b5, 9, none⟩) := sf hk 12
   have hx := (hS.base.cell (p := ⟨b5, 9, none⟩) hz).trans (hxx0 9)
   exact rq (.int .i64 y.width) (wanted_yes rfl rfl rfl (sv hk 10)) (by simp [execOp, Act.eval, f75, go_sem, hx]) hl hs hS
  refine SSteps.cons (fun a w' vs σ hS hl hs hk => ?_) ?_
  ·have f76 : a.tmps[76]?.getD undef = .int .i64 y.width := sf hk 13
   have hw2 := HW2.out
   exact rq (.bool true) (wanted_yes rfl rfl rfl (sv hk 10)) (by simp [execOp, Act.eval, f76, go_sem, hw2]) hl hs hS
  refine SSteps.cons (fun a w' vs σ hS hl hs hk => ?_) ?_
  ·have f77 : a.tmps[77]?.getD undef = .bool true := sf hk 14
   exact rq (.bool true) (wanted_yes rfl rfl rfl (sv hk 10)) (by simp [execOp, Act.eval, f77, go_sem]) hl hs hS
  refine SSteps.cons (fun a w' vs σ hS hl hs hk => ?_) ?_
  ·have f5 : a.tmps[5]?.getD undef = .pointer (some ⟨b5, 0, none⟩) := sof hk
   exact rq (.pointer (some ⟨b5, 2, none⟩)) (wanted_yes rfl rfl rfl (sv hk 15)) (by simp [execOp, Act.eval, f5, go_sem]) hl hs hS
  refine SSteps.cons (fun a w' vs σ hS hl hs hk => ?_) ?_
  ·have f79 : a.tmps[79]?.getD undef = .pointer (some ⟨b5, 2, none⟩) := sf hk 16
   have hx := (hS.base.cell (p := ⟨b5, 2, none⟩) hz).trans (hxx0 2)
   exact rq (.int .i64 ↑j) (wanted_yes rfl rfl rfl (sv hk 15)) (by simp [execOp, Act.eval, f79, go_sem, hx]) hl hs hS
  refine SSteps.cons (fun a w' vs σ hS hl hs hk => ?_) ?_
  ·have f1 : a.tmps[1]?.getD undef = .pointer (some ⟨x, 0, none⟩) := sof hk
   exact rq (.pointer (some ⟨x, 0, none⟩)) (wanted_yes rfl rfl rfl (sv hk 15)) (by simp [execOp, Act.eval, f1, go_sem]) hl hs hS
  refine SSteps.cons (fun a w' vs σ hS hl hs hk => ?_) ?_
  ·have f81 : a.tmps[81]?.getD undef = .pointer (some ⟨x, 0, none⟩) := sf hk 18
   exact rq (.pointer (some ⟨x, 0, none⟩)) (wanted_yes rfl rfl rfl (sv hk 15)) (by simp [execOp, Act.eval, f81, go_sem]) hl hs hS
  refine SSteps.cons (fun a w' vs σ hS hl hs hk => ?_) ?_
  ·have f82 : a.tmps[82]?.getD undef = .pointer (some ⟨x, 0, none⟩) := sf hk 19
   exact rq (.pointer (some ⟨x, 0, none⟩)) (wanted_yes rfl rfl rfl (sv hk 15)) (by simp [execOp, Act.eval, f82, go_sem]) hl hs hS
  refine SSteps.cons (fun a w' vs σ hS hl hs hk => ?_) ?_
  ·have f83 : a.tmps[83]?.getD undef = .pointer (some ⟨x, 0, none⟩) := sf hk 20
   have hx := (hS.base.cell (p := ⟨x, 0, none⟩) hzx).trans (hxx 0)
   exact rq (.int .i64 ↑cols) (wanted_yes rfl rfl rfl (sv hk 15)) (by simp [execOp, Act.eval, f83, go_sem, hx]) hl hs hS
  refine SSteps.cons (fun a w' vs σ hS hl hs hk => ?_) ?_
  ·have f84 : a.tmps[84]?.getD undef = .int .i64 ↑cols := sf hk 21
   exact rq (.int .i64 (↑cols - 1)) (wanted_yes rfl rfl rfl (sv hk 15)) (by simp [execOp, Act.eval, f84, go_sem, HWC.out]) hl hs hS
  refine SSteps.cons (fun a w' vs σ hS hl hs hk => ?_) ?_
  ·have f80 : a.tmps[80]?.getD undef = .int .i64 ↑j := sf hk 17
   have f85 : a.tmps[85]?.getD undef = .int .i64 (↑cols - 1) := sf hk 22
   have hwide := HWD.out
   exact rq (.bool false) (wanted_yes rfl rfl rfl (sv hk 15)) (by simp [execOp, Act.eval, f80, f85, go_sem, hwide]) hl hs hS
  refine SSteps.cons (fun a w' vs σ hS hl hs hk => ?_) ?_
  ·have f78 : a.tmps[78]?.getD undef = .bool true := sf hk 15
   have f86 : a.tmps[86]?.getD undef = .bool false := sf hk 23
   exact rq (.bool false) (wanted_yes rfl rfl rfl (sv hk 10)) (by simp [execOp, Act.eval, f78, f86, go_sem]) hl hs hS
  refine SSteps.cons (fun a w' vs σ hS hl hs hk => ?_) ?_
  ·have f73 : a.tmps[73]?.getD undef = .bool false := sf hk 10
   have f87 : a.tmps[87]?.getD undef = .bool false := sf hk 24
   exact rp (.bool false) (by simp [execOp, Act.eval, f73, f87, go_sem]) hl hs hS
  refine SSteps.cons (fun a w' vs σ hS hl hs hk => ?_) ?_
  ·have f88 : a.tmps[88]?.getD undef = .bool false := sf hk 25
   exact rp (.bool false) (by simp [execOp, Act.eval, f88, go_sem]) hl hs hS
  exact SSteps.nil
 ·intro vs w' hS hv
  have q0 : vs 0 = .pointer (some ⟨b5, 5, none⟩) := hv 0 (by decide)
  have q1 : vs 1 = .agg (cv y) := hv 1 (by decide)
  have q2 : vs 2 = .bool true := hv 2 (by decide)
  have q3 : vs 3 = .bool false := hv 3 (by decide)
  have q4 : vs 4 = .bool false := hv 4 (by decide)
  have q5 : vs 5 = .pointer (some ⟨b5, 5, none⟩) := hv 5 (by decide)
  have q6 : vs 6 = .pointer (some ⟨b5, 9, none⟩) := hv 6 (by decide)
  have q7 : vs 7 = .int .i64 y.width := hv 7 (by decide)
  have q8 : vs 8 = .bool false := hv 8 (by decide)
  have q9 : vs 9 = .bool false := hv 9 (by decide)
  have q10 : vs 10 = .bool false := hv 10 (by decide)
  have q11 : vs 11 = .pointer (some ⟨b5, 5, none⟩) := hv 11 (by decide)
  have q12 : vs 12 = .pointer (some ⟨b5, 9, none⟩) := hv 12 (by decide)
  have q13 : vs 13 = .int .i64 y.width := hv 13 (by decide)
  have q14 : vs 14 = .bool true := hv 14 (by decide)
  have q15 : vs 15 = .bool true := hv 15 (by decide)
  have q16 : vs 16 = .pointer (some ⟨b5, 2, none⟩) := hv 16 (by decide)
  have q17 : vs 17 = .int .i64 ↑j := hv 17 (by decide)
  have q18 : vs 18 = .pointer (some ⟨x, 0, none⟩) := hv 18 (by decide)
  have q19 : vs 19 = .pointer (some ⟨x, 0, none⟩) := hv 19 (by decide)
  have q20 : vs 20 = .pointer (some ⟨x, 0, none⟩) := hv 20 (by decide)
  have q21 : vs 21 = .int .i64 ↑cols := hv 21 (by decide)
  have q22 : vs 22 = .int .i64 (↑cols - 1) := hv 22 (by decide)
  have q23 : vs 23 = .bool false := hv 23 (by decide)
  have q24 : vs 24 = .bool false := hv 24 (by decide)
  have q25 : vs 25 = .bool false := hv 25 (by decide)
  have q26 : vs 26 = .bool false := hv 26 (by decide)
  have S2 := Lib.hid hS
  simp only [putL, Act.put, Nat.zero_add, Nat.reduceAdd, List.setIfInBounds_toArray, List.set_cons_succ, List.set_cons_zero, q0, q1, q2, q3, q4, q5, q6, q7, q8, q9, q10, q11, q12, q13, q14, q15, q16, q17, q18, q19, q20, q21, q22, q23, q24, q25, q26]
  clear hS hv q0 q1 q2 q3 q4 q5 q6 q7 q8 q9 q10 q11 q12 q13 q14 q15 q16 q17 q18 q19 q20 q21 q22 q23 q24 q25 q26
  have S99 := Lib.hid (S4.out.bel S2.out.base)
  clear S2 HTW hz hcl hxx hfx hzx hxx0 S4
  obtain ⟨hx, hf, hz, hr, hp, hcl, hpc⟩ := (S99.out.box (k := 0) rfl).act14
  obtain ⟨Ax, cx, hBx, -, -⟩ := S99.out.gridRd (k := 2) rfl
  obtain ⟨hxx, hfx, hzx⟩ := hBx.facts
  clear hBx
  go_wp2_with fail
  have hcon := r14PutG y S99.out (k := 2) rfl hcm HR.out h0 HVY.out HW0.out HFT.out
  refine hcon.mono ?_
  rintro e w3 ⟨rfl, hS⟩
  have S100 := Lib.hid hS
  clear hS hcon S99
  clear hx hf hz hr hp hcl hpc hxx hfx hzx
  obtain ⟨hx, hf, hz, hr, hp, hcl, hpc⟩ := (S100.out.box (k := 0) rfl).act14
  obtain ⟨Ax, cx, hBx, -, -⟩ := S100.out.gridRd (k := 2) rfl
  obtain ⟨hxx, hfx, hzx⟩ := hBx.facts
  clear hBx
  go_wp2_with fail
  have hcon := PutG y HT.out S100.out (k := 1) rfl hcm HR.out h0 HVY.out HW0.out HFT.out
  refine hcon.mono ?_
  rintro e w3 ⟨rfl, hS⟩
  have S101 := Lib.hid hS
  clear hS hcon S100
  clear hx hf hz hr hp hcl hpc hxx hfx hzx
  obtain ⟨hx, hf, hz, hr, hp, hcl, hpc⟩ := (S101.out.box (k := 0) rfl).act14
  obtain ⟨Ax, cx, hBx, -, -⟩ := S101.out.gridRd (k := 2) rfl
  obtain ⟨hxx, hfx, hzx⟩ := hBx.facts
  clear hBx
  go_wp2_with fail
  go_ret
  exact ⟨rfl, by rw [HN.out]; exact S101.out.tail⟩
end
end Go.Proofs.YtppijfjigcoifaaDoor

namespace Go.Proofs.YtppijfjigcoifaaDoor
open Go.RowKit

section
variable {w0 w : World} {os : List Ob} {p x cols : Nat} {L : List Ln}
set_option maxRecDepth 100000 in
set_option maxHeartbeats 8000000 in
theorem does_clr_out (row : Int) (h0 : row < 0 ∨ (0 ≤ row ∧ (L.length : Int) ≤ row)) (ca cb n : Int) (y : Cell) (A : Option Addr) (c : Nat) (cs : List Cell) (soft : Bool) (q : Pen) (hT : Tabs w0) (hS : Objs w0 w (.grid p 58 cols L :: .grid x 33 cols L :: os)) (hc : 0 < cols) (hcm : cols ≤ 1000) (hR : Rect cols L) (hL : 0 < L.length) (hLm : L.length ≤ 1000) (hA : RdC w0 A c cs) (hlc : cs.length ≤ 100000) (ia : -9223372036854775808 ≤ ca ∧ ca ≤ 9223372036854775807) (ib : -9223372036854775808 ≤ cb ∧ cb ≤ 9223372036854775807) (i_n : -9223372036854775808 ≤ n ∧ n ≤ 9223372036854775807) :
  Calls Tryd.prog 43 #[.pointer (some ⟨p, 0, none⟩), .pointer (some ⟨x, 0, none⟩), .agg (av14 ⟨1, row, ca, cb, n, y, A, c, cs, soft, q⟩)] w fun e w' => e = .returned (.bool true) ∧ Objs w0 w' (.grid p 58 cols (act14N ⟨1, row, ca, cb, n, y, A, c, cs, soft, q⟩ cols L) :: .grid x 33 cols (act14N ⟨1, row, ca, cb, n, y, A, c, cs, soft, q⟩ cols L) :: os) := by
 have HT := Lib.hid hT
 have S0 := Lib.hid hS
 have HR := Lib.hid hR
 have HA := Lib.hid hA
 have HM := Lib.hid (hR.mill hcm)
 have hlm2 : L.length ≤ 100000 := by omega
 have hlm3 : L.length ≤ 1000000 := by omega
 have HIA := Lib.hid ia
 have HIB := Lib.hid ib
 have HIN := Lib.hid i_n
 clear hT hS hR hA ia ib i_n
 rcases h0 with h0 | ⟨h0, h1⟩
 all_goals
  have HE := Lib.hid (show clrE row ca cb q cols L.length = 3 by have hh : here14 row L.length = false := decide_eq_false (by omega); unfold clrE; rw [if_pos (fun h => by rw [hh] at h; exact absurd h.1 (by decide))])
  have HN := Lib.hid (show act14N ⟨1, row, ca, cb, n, y, A, c, cs, soft, q⟩ cols L = L by simp [act14N, HE.out])
  go_enter Tryd.func43, Tryd.ntmps43
  go_upto_region 1 with (fail)
  refine at_objsC S0.out.alloc1 (fun W hW => ?_)
  generalize w.heap.size = b5 at hW ⊢
  have S1 := Lib.hid hW
  clear hW S0
  obtain ⟨hx, hf, hz, hr, hp, hcl, hpc⟩ := (S1.out.box (k := 0) rfl).act14
  obtain ⟨Ax, cx, hBx, -, -⟩ := S1.out.gridRd (k := 2) rfl
  obtain ⟨hxx, hfx, hzx⟩ := hBx.facts
  clear hBx
  first | (have d1 : decide ((0 : Int) ≤ row) = false := decide_eq_false (by omega)) | (have d1 : decide ((0 : Int) ≤ row) = true := decide_eq_true (by omega))
  first | (have d2 : decide (row < (L.length : Int)) = false := decide_eq_false (by omega)) | (have d2 : decide (row < (L.length : Int)) = true := decide_eq_true (by omega))
  refine wp_region_below (by kernel_rfl) (by kernel_rfl) ?_
  repeat (go_big_quiet_step (fail))
  refine wpQuiet_nil ?_
  intro w2 hb2
  have S2 := Lib.hid (S1.out.bel hb2)
  clear hb2 S1
  clear hx hf hz hr hp hcl hpc hxx hfx hzx
  obtain ⟨hx, hf, hz, hr, hp, hcl, hpc⟩ := (S2.out.box (k := 0) rfl).act14
  obtain ⟨Ax, cx, hBx, -, -⟩ := S2.out.gridRd (k := 2) rfl
  obtain ⟨hxx, hfx, hzx⟩ := hBx.facts
  clear hBx
  go_wp2_with fail
  refine wp_region_below (by kernel_rfl) (by kernel_rfl) ?_
  repeat (go_big_quiet_step (fail))
  refine wpQuiet_nil ?_
  intro w2 hb2
  have S3 := Lib.hid (S2.out.bel hb2)
  clear hb2 S2
  clear hx hf hz hr hp hcl hpc hxx hfx hzx
  obtain ⟨hx, hf, hz, hr, hp, hcl, hpc⟩ := (S3.out.box (k := 0) rfl).act14
  obtain ⟨Ax, cx, hBx, -, -⟩ := S3.out.gridRd (k := 2) rfl
  obtain ⟨hxx, hfx, hzx⟩ := hBx.facts
  clear hBx
  go_wp2_with fail
  have hcon := ClearN q HT.out S3.out (k := 1) rfl hc hcm (row := row) (f := ca) (t := cb) (by rw [HE.out]; decide)
  rw [HE.out] at hcon
  refine hcon.mono ?_
  rintro e w3 ⟨rfl, hS⟩
  have S4 := Lib.hid hS
  clear hS hcon S3
  clear hx hf hz hr hp hcl hpc hxx hfx hzx
  obtain ⟨hx, hf, hz, hr, hp, hcl, hpc⟩ := (S4.out.box (k := 0) rfl).act14
  obtain ⟨Ax, cx, hBx, -, -⟩ := S4.out.gridRd (k := 2) rfl
  obtain ⟨hxx, hfx, hzx⟩ := hBx.facts
  clear hBx
  go_wp2_with fail
  go_ret
  exact ⟨rfl, by rw [HN.out]; exact S4.out.tail⟩
set_option maxRecDepth 100000 in
set_option maxHeartbeats 8000000 in
theorem does_shf_out (row : Int) (h0 : row < 0 ∨ (0 ≤ row ∧ (L.length : Int) ≤ row)) (ca cb n : Int) (y : Cell) (A : Option Addr) (c : Nat) (cs : List Cell) (soft : Bool) (q : Pen) (hT : Tabs w0) (hS : Objs w0 w (.grid p 58 cols L :: .grid x 33 cols L :: os)) (hc : 0 < cols) (hcm : cols ≤ 1000) (hR : Rect cols L) (hL : 0 < L.length) (hLm : L.length ≤ 1000) (hA : RdC w0 A c cs) (hlc : cs.length ≤ 100000) (ia : -9223372036854775808 ≤ ca ∧ ca ≤ 9223372036854775807) (ib : -9223372036854775808 ≤ cb ∧ cb ≤ 9223372036854775807) (i_n : -9223372036854775808 ≤ n ∧ n ≤ 9223372036854775807) :
  Calls Tryd.prog 43 #[.pointer (some ⟨p, 0, none⟩), .pointer (some ⟨x, 0, none⟩), .agg (av14 ⟨2, row, ca, cb, n, y, A, c, cs, soft, q⟩)] w fun e w' => e = .returned (.bool true) ∧ Objs w0 w' (.grid p 58 cols (act14N ⟨2, row, ca, cb, n, y, A, c, cs, soft, q⟩ cols L) :: .grid x 33 cols (act14N ⟨2, row, ca, cb, n, y, A, c, cs, soft, q⟩ cols L) :: os) := by
 have HT := Lib.hid hT
 have S0 := Lib.hid hS
 have HR := Lib.hid hR
 have HA := Lib.hid hA
 have HM := Lib.hid (hR.mill hcm)
 have hlm2 : L.length ≤ 100000 := by omega
 have hlm3 : L.length ≤ 1000000 := by omega
 have HIA := Lib.hid ia
 have HIB := Lib.hid ib
 have HIN := Lib.hid i_n
 clear hT hS hR hA ia ib i_n
 rcases h0 with h0 | ⟨h0, h1⟩
 all_goals
  have HE := Lib.hid (show shfE row ca q cols L.length = 3 by have hh : here14 row L.length = false := decide_eq_false (by omega); unfold shfE; rw [if_pos (fun h => by rw [hh] at h; exact absurd h.1 (by decide))])
  have HN := Lib.hid (show act14N ⟨2, row, ca, cb, n, y, A, c, cs, soft, q⟩ cols L = L by simp [act14N, HE.out])
  go_enter Tryd.func43, Tryd.ntmps43
  go_upto_region 1 with (fail)
  refine at_objsC S0.out.alloc1 (fun W hW => ?_)
  generalize w.heap.size = b5 at hW ⊢
  have S1 := Lib.hid hW
  clear hW S0
  obtain ⟨hx, hf, hz, hr, hp, hcl, hpc⟩ := (S1.out.box (k := 0) rfl).act14
  obtain ⟨Ax, cx, hBx, -, -⟩ := S1.out.gridRd (k := 2) rfl
  obtain ⟨hxx, hfx, hzx⟩ := hBx.facts
  clear hBx
  first | (have d1 : decide ((0 : Int) ≤ row) = false := decide_eq_false (by omega)) | (have d1 : decide ((0 : Int) ≤ row) = true := decide_eq_true (by omega))
  first | (have d2 : decide (row < (L.length : Int)) = false := decide_eq_false (by omega)) | (have d2 : decide (row < (L.length : Int)) = true := decide_eq_true (by omega))
  refine wp_region_below (by kernel_rfl) (by kernel_rfl) ?_
  repeat (go_big_quiet_step (fail))
  refine wpQuiet_nil ?_
  intro w2 hb2
  have S2 := Lib.hid (S1.out.bel hb2)
  clear hb2 S1
  clear hx hf hz hr hp hcl hpc hxx hfx hzx
  obtain ⟨hx, hf, hz, hr, hp, hcl, hpc⟩ := (S2.out.box (k := 0) rfl).act14
  obtain ⟨Ax, cx, hBx, -, -⟩ := S2.out.gridRd (k := 2) rfl
  obtain ⟨hxx, hfx, hzx⟩ := hBx.facts
  clear hBx
  go_wp2_with fail
  refine wp_region_below (by kernel_rfl) (by kernel_rfl) ?_
  repeat (go_big_quiet_step (fail))
  refine wpQuiet_nil ?_
  intro w2 hb2
  have S3 := Lib.hid (S2.out.bel hb2)
  clear hb2 S2
  clear hx hf hz hr hp hcl hpc hxx hfx hzx
  obtain ⟨hx, hf, hz, hr, hp, hcl, hpc⟩ := (S3.out.box (k := 0) rfl).act14
  obtain ⟨Ax, cx, hBx, -, -⟩ := S3.out.gridRd (k := 2) rfl
  obtain ⟨hxx, hfx, hzx⟩ := hBx.facts
  clear hBx
  go_wp2_with fail
  have hcon := ShiftN q HT.out S3.out (k := 1) rfl hc hcm (row := row) (col := ca) (n := cb) (by rw [HE.out]; decide)
  rw [HE.out] at hcon
  refine hcon.mono ?_
  rintro e w3 ⟨rfl, hS⟩
  have S4 := Lib.hid hS
  clear hS hcon S3
  clear hx hf hz hr hp hcl hpc hxx hfx hzx
  obtain ⟨hx, hf, hz, hr, hp, hcl, hpc⟩ := (S4.out.box (k := 0) rfl).act14
  obtain ⟨Ax, cx, hBx, -, -⟩ := S4.out.gridRd (k := 2) rfl
  obtain ⟨hxx, hfx, hzx⟩ := hBx.facts
  clear hBx
  go_wp2_with fail
  go_ret
  exact ⟨rfl, by rw [HN.out]; exact S4.out.tail⟩
set_option maxRecDepth 100000 in
set_option maxHeartbeats 8000000 in
theorem does_clr_a (row : Nat) (h0 : row < L.length) (ca cb n : Int) (y : Cell) (A : Option Addr) (c : Nat) (cs : List Cell) (soft : Bool) (q : Pen) (hT : Tabs w0) (hS : Objs w0 w (.grid p 58 cols L :: .grid x 33 cols L :: os)) (hc : 0 < cols) (hcm : cols ≤ 1000) (hR : Rect cols L) (hL : 0 < L.length) (hLm : L.length ≤ 1000) (hA : RdC w0 A c cs) (hlc : cs.length ≤ 100000) (ia : -9223372036854775808 ≤ ca ∧ ca ≤ 9223372036854775807) (ib : -9223372036854775808 ≤ cb ∧ cb ≤ 9223372036854775807) (i_n : -9223372036854775808 ≤ n ∧ n ≤ 9223372036854775807) (h1 : ca < 0) :
  Calls Tryd.prog 43 #[.pointer (some ⟨p, 0, none⟩), .pointer (some ⟨x, 0, none⟩), .agg (av14 ⟨1, ↑row, ca, cb, n, y, A, c, cs, soft, q⟩)] w fun e w' => e = .returned (.bool true) ∧ Objs w0 w' (.grid p 58 cols (act14N ⟨1, ↑row, ca, cb, n, y, A, c, cs, soft, q⟩ cols L) :: .grid x 33 cols (act14N ⟨1, ↑row, ca, cb, n, y, A, c, cs, soft, q⟩ cols L) :: os) := by
 have HT := Lib.hid hT
 have S0 := Lib.hid hS
 have HR := Lib.hid hR
 have HA := Lib.hid hA
 have HM := Lib.hid (hR.mill hcm)
 have hlm2 : L.length ≤ 100000 := by omega
 have hlm3 : L.length ≤ 1000000 := by omega
 have HIA := Lib.hid ia
 have HIB := Lib.hid ib
 have HIN := Lib.hid i_n
 clear hT hS hR hA ia ib i_n
 have HE := Lib.hid (show clrE ↑row ca cb q cols L.length = 3 by have hh : here14 (row : Int) L.length = true := decide_eq_true (by omega); unfold clrE; rw [if_pos (fun h => by have := h.2; omega)])
 have HN := Lib.hid (show act14N ⟨1, ↑row, ca, cb, n, y, A, c, cs, soft, q⟩ cols L = L by simp [act14N, HE.out])
 go_enter Tryd.func43, Tryd.ntmps43
 go_upto_region 1 with (fail)
 refine at_objsC S0.out.alloc1 (fun W hW => ?_)
 generalize w.heap.size = b5 at hW ⊢
 have S1 := Lib.hid hW
 clear hW S0
 obtain ⟨hx, hf, hz, hr, hp, hcl, hpc⟩ := (S1.out.box (k := 0) rfl).act14
 obtain ⟨Ax, cx, hBx, -, -⟩ := S1.out.gridRd (k := 2) rfl
 obtain ⟨hxx, hfx, hzx⟩ := hBx.facts
 clear hBx
 have d1 : decide ((0 : Int) ≤ (row : Int)) = true := decide_eq_true (by omega)
 have d2 : decide ((row : Int) < (L.length : Int)) = true := decide_eq_true (by omega)
 refine wp_region_below (by kernel_rfl) (by kernel_rfl) ?_
 repeat (go_big_quiet_step (fail))
 refine wpQuiet_nil ?_
 intro w2 hb2
 have S2 := Lib.hid (S1.out.bel hb2)
 clear hb2 S1
 clear hx hf hz hr hp hcl hpc hxx hfx hzx
 obtain ⟨hx, hf, hz, hr, hp, hcl, hpc⟩ := (S2.out.box (k := 0) rfl).act14
 obtain ⟨Ax, cx, hBx, -, -⟩ := S2.out.gridRd (k := 2) rfl
 obtain ⟨hxx, hfx, hzx⟩ := hBx.facts
 clear hBx
 go_wp2_with fail
 have d3 : decide (ca < (0 : Int)) = true := decide_eq_true (by omega)
 refine wp_region_below (by kernel_rfl) (by kernel_rfl) ?_
 repeat (go_big_quiet_step (fail))
 refine wpQuiet_nil ?_
 intro w2 hb2
 have S3 := Lib.hid (S2.out.bel hb2)
 clear hb2 S2
 clear hx hf hz hr hp hcl hpc hxx hfx hzx
 obtain ⟨hx, hf, hz, hr, hp, hcl, hpc⟩ := (S3.out.box (k := 0) rfl).act14
 obtain ⟨Ax, cx, hBx, -, -⟩ := S3.out.gridRd (k := 2) rfl
 obtain ⟨hxx, hfx, hzx⟩ := hBx.facts
 clear hBx
 go_wp2_with fail
 have hcon := ClearN q HT.out S3.out (k := 1) rfl hc hcm (row := ↑row) (f := ca) (t := cb) (by rw [HE.out]; decide)
 rw [HE.out] at hcon
 refine hcon.mono ?_
 rintro e w3 ⟨rfl, hS⟩
 have S4 := Lib.hid hS
 clear hS hcon S3
 clear hx hf hz hr hp hcl hpc hxx hfx hzx
 obtain ⟨hx, hf, hz, hr, hp, hcl, hpc⟩ := (S4.out.box (k := 0) rfl).act14
 obtain ⟨Ax, cx, hBx, -, -⟩ := S4.out.gridRd (k := 2) rfl
 obtain ⟨hxx, hfx, hzx⟩ := hBx.facts
 clear hBx
 go_wp2_with fail
 go_ret
 exact ⟨rfl, by rw [HN.out]; exact S4.out.tail⟩
set_option maxRecDepth 100000 in
set_option maxHeartbeats 8000000 in
theorem does_clr_b (row : Nat) (h0 : row < L.length) (ca cb n : Int) (y : Cell) (A : Option Addr) (c : Nat) (cs : List Cell) (soft : Bool) (q : Pen) (hT : Tabs w0) (hS : Objs w0 w (.grid p 58 cols L :: .grid x 33 cols L :: os)) (hc : 0 < cols) (hcm : cols ≤ 1000) (hR : Rect cols L) (hL : 0 < L.length) (hLm : L.length ≤ 1000) (hA : RdC w0 A c cs) (hlc : cs.length ≤ 100000) (ia : -9223372036854775808 ≤ ca ∧ ca ≤ 9223372036854775807) (ib : -9223372036854775808 ≤ cb ∧ cb ≤ 9223372036854775807) (i_n : -9223372036854775808 ≤ n ∧ n ≤ 9223372036854775807) (h1 : 0 ≤ ca) (h2 : cb < ca) :
  Calls Tryd.prog 43 #[.pointer (some ⟨p, 0, none⟩), .pointer (some ⟨x, 0, none⟩), .agg (av14 ⟨1, ↑row, ca, cb, n, y, A, c, cs, soft, q⟩)] w fun e w' => e = .returned (.bool true) ∧ Objs w0 w' (.grid p 58 cols (act14N ⟨1, ↑row, ca, cb, n, y, A, c, cs, soft, q⟩ cols L) :: .grid x 33 cols (act14N ⟨1, ↑row, ca, cb, n, y, A, c, cs, soft, q⟩ cols L) :: os) := by
 have HT := Lib.hid hT
 have S0 := Lib.hid hS
 have HR := Lib.hid hR
 have HA := Lib.hid hA
 have HM := Lib.hid (hR.mill hcm)
 have hlm2 : L.length ≤ 100000 := by omega
 have hlm3 : L.length ≤ 1000000 := by omega
 have HIA := Lib.hid ia
 have HIB := Lib.hid ib
 have HIN := Lib.hid i_n
 clear hT hS hR hA ia ib i_n
 have HE := Lib.hid (show clrE ↑row ca cb q cols L.length = 3 by have hh : here14 (row : Int) L.length = true := decide_eq_true (by omega); unfold clrE; rw [if_pos (fun h => by have := h.2; omega)])
 have HN := Lib.hid (show act14N ⟨1, ↑row, ca, cb, n, y, A, c, cs, soft, q⟩ cols L = L by simp [act14N, HE.out])
 go_enter Tryd.func43, Tryd.ntmps43
 go_upto_region 1 with (fail)
 refine at_objsC S0.out.alloc1 (fun W hW => ?_)
 generalize w.heap.size = b5 at hW ⊢
 have S1 := Lib.hid hW
 clear hW S0
 obtain ⟨hx, hf, hz, hr, hp, hcl, hpc⟩ := (S1.out.box (k := 0) rfl).act14
 obtain ⟨Ax, cx, hBx, -, -⟩ := S1.out.gridRd (k := 2) rfl
 obtain ⟨hxx, hfx, hzx⟩ := hBx.facts
 clear hBx
 have d1 : decide ((0 : Int) ≤ (row : Int)) = true := decide_eq_true (by omega)
 have d2 : decide ((row : Int) < (L.length : Int)) = true := decide_eq_true (by omega)
 refine wp_region_below (by kernel_rfl) (by kernel_rfl) ?_
 repeat (go_big_quiet_step (fail))
 refine wpQuiet_nil ?_
 intro w2 hb2
 have S2 := Lib.hid (S1.out.bel hb2)
 clear hb2 S1
 clear hx hf hz hr hp hcl hpc hxx hfx hzx
 obtain ⟨hx, hf, hz, hr, hp, hcl, hpc⟩ := (S2.out.box (k := 0) rfl).act14
 obtain ⟨Ax, cx, hBx, -, -⟩ := S2.out.gridRd (k := 2) rfl
 obtain ⟨hxx, hfx, hzx⟩ := hBx.facts
 clear hBx
 go_wp2_with fail
 have d3 : decide (ca < (0 : Int)) = false := decide_eq_false (by omega)
 have d4 : decide (cb < ca) = true := decide_eq_true (by omega)
 refine wp_region_below (by kernel_rfl) (by kernel_rfl) ?_
 repeat (go_big_quiet_step (fail))
 refine wpQuiet_nil ?_
 intro w2 hb2
 have S3 := Lib.hid (S2.out.bel hb2)
 clear hb2 S2
 clear hx hf hz hr hp hcl hpc hxx hfx hzx
 obtain ⟨hx, hf, hz, hr, hp, hcl, hpc⟩ := (S3.out.box (k := 0) rfl).act14
 obtain ⟨Ax, cx, hBx, -, -⟩ := S3.out.gridRd (k := 2) rfl
 obtain ⟨hxx, hfx, hzx⟩ := hBx.facts
 clear hBx
 go_wp2_with fail
 have hcon := ClearN q HT.out S3.out (k := 1) rfl hc hcm (row := ↑row) (f := ca) (t := cb) (by rw [HE.out]; decide)
 rw [HE.out] at hcon
 refine hcon.mono ?_
 rintro e w3 ⟨rfl, hS⟩
 have S4 := Lib.hid hS
 clear hS hcon S3
 clear hx hf hz hr hp hcl hpc hxx hfx hzx
 obtain ⟨hx, hf, hz, hr, hp, hcl, hpc⟩ := (S4.out.box (k := 0) rfl).act14
 obtain ⟨Ax, cx, hBx, -, -⟩ := S4.out.gridRd (k := 2) rfl
 obtain ⟨hxx, hfx, hzx⟩ := hBx.facts
 clear hBx
 go_wp2_with fail
 go_ret
 exact ⟨rfl, by rw [HN.out]; exact S4.out.tail⟩
set_option maxRecDepth 100000 in
set_option maxHeartbeats 8000000 in
theorem does_clr_c (row : Nat) (h0 : row < L.length) (ca cb n : Int) (y : Cell) (A : Option Addr) (c : Nat) (cs : List Cell) (soft : Bool) (q : Pen) (hT : Tabs w0) (hS : Objs w0 w (.grid p 58 cols L :: .grid x 33 cols L :: os)) (hc : 0 < cols) (hcm : cols ≤ 1000) (hR : Rect cols L) (hL : 0 < L.length) (hLm : L.length ≤ 1000) (hA : RdC w0 A c cs) (hlc : cs.length ≤ 100000) (ia : -9223372036854775808 ≤ ca ∧ ca ≤ 9223372036854775807) (ib : -9223372036854775808 ≤ cb ∧ cb ≤ 9223372036854775807) (i_n : -9223372036854775808 ≤ n ∧ n ≤ 9223372036854775807) (h1 : 0 ≤ ca) (h2 : ca ≤ cb) (h3 : (cols : Int) < cb) :
  Calls Tryd.prog 43 #[.pointer (some ⟨p, 0, none⟩), .pointer (some ⟨x, 0, none⟩), .agg (av14 ⟨1, ↑row, ca, cb, n, y, A, c, cs, soft, q⟩)] w fun e w' => e = .returned (.bool true) ∧ Objs w0 w' (.grid p 58 cols (act14N ⟨1, ↑row, ca, cb, n, y, A, c, cs, soft, q⟩ cols L) :: .grid x 33 cols (act14N ⟨1, ↑row, ca, cb, n, y, A, c, cs, soft, q⟩ cols L) :: os) := by
 have HT := Lib.hid hT
 have S0 := Lib.hid hS
 have HR := Lib.hid hR
 have HA := Lib.hid hA
 have HM := Lib.hid (hR.mill hcm)
 have hlm2 : L.length ≤ 100000 := by omega
 have hlm3 : L.length ≤ 1000000 := by omega
 have HIA := Lib.hid ia
 have HIB := Lib.hid ib
 have HIN := Lib.hid i_n
 clear hT hS hR hA ia ib i_n
 have HE := Lib.hid (show clrE ↑row ca cb q cols L.length = 3 by have hh : here14 (row : Int) L.length = true := decide_eq_true (by omega); unfold clrE; rw [if_pos (fun h => by have := h.2; omega)])
 have HN := Lib.hid (show act14N ⟨1, ↑row, ca, cb, n, y, A, c, cs, soft, q⟩ cols L = L by simp [act14N, HE.out])
 go_enter Tryd.func43, Tryd.ntmps43
 go_upto_region 1 with (fail)
 refine at_objsC S0.out.alloc1 (fun W hW => ?_)
 generalize w.heap.size = b5 at hW ⊢
 have S1 := Lib.hid hW
 clear hW S0
 obtain ⟨hx, hf, hz, hr, hp, hcl, hpc⟩ := (S1.out.box (k := 0) rfl).act14
 obtain ⟨Ax, cx, hBx, -, -⟩ := S1.out.gridRd (k := 2) rfl
 obtain ⟨hxx, hfx, hzx⟩ := hBx.facts
 clear hBx
 have d1 : decide ((0 : Int) ≤ (row : Int)) = true := decide_eq_true (by omega)
 have d2 : decide ((row : Int) < (L.length : Int)) = true := decide_eq_true (by omega)
 refine wp_region_below (by kernel_rfl) (by kernel_rfl) ?_
 repeat (go_big_quiet_step (fail))
 refine wpQuiet_nil ?_
 intro w2 hb2
 have S2 := Lib.hid (S1.out.bel hb2)
 clear hb2 S1
 clear hx hf hz hr hp hcl hpc hxx hfx hzx
 obtain ⟨hx, hf, hz, hr, hp, hcl, hpc⟩ := (S2.out.box (k := 0) rfl).act14
 obtain ⟨Ax, cx, hBx, -, -⟩ := S2.out.gridRd (k := 2) rfl
 obtain ⟨hxx, hfx, hzx⟩ := hBx.facts
 clear hBx
 go_wp2_with fail
 have d3 : decide (ca < (0 : Int)) = false := decide_eq_false (by omega)
 have d4 : decide (cb < ca) = false := decide_eq_false (by omega)
 have d5 : decide ((cols : Int) < cb) = true := decide_eq_true (by omega)
 refine wp_region_below (by kernel_rfl) (by kernel_rfl) ?_
 repeat (go_big_quiet_step (fail))
 refine wpQuiet_nil ?_
 intro w2 hb2
 have S3 := Lib.hid (S2.out.bel hb2)
 clear hb2 S2
 clear hx hf hz hr hp hcl hpc hxx hfx hzx
 obtain ⟨hx, hf, hz, hr, hp, hcl, hpc⟩ := (S3.out.box (k := 0) rfl).act14
 obtain ⟨Ax, cx, hBx, -, -⟩ := S3.out.gridRd (k := 2) rfl
 obtain ⟨hxx, hfx, hzx⟩ := hBx.facts
 clear hBx
 go_wp2_with fail
 have hcon := ClearN q HT.out S3.out (k := 1) rfl hc hcm (row := ↑row) (f := ca) (t := cb) (by rw [HE.out]; decide)
 rw [HE.out] at hcon
 refine hcon.mono ?_
 rintro e w3 ⟨rfl, hS⟩
 have S4 := Lib.hid hS
 clear hS hcon S3
 clear hx hf hz hr hp hcl hpc hxx hfx hzx
 obtain ⟨hx, hf, hz, hr, hp, hcl, hpc⟩ := (S4.out.box (k := 0) rfl).act14
 obtain ⟨Ax, cx, hBx, -, -⟩ := S4.out.gridRd (k := 2) rfl
 obtain ⟨hxx, hfx, hzx⟩ := hBx.facts
 clear hBx
 go_wp2_with fail
 go_ret
 exact ⟨rfl, by rw [HN.out]; exact S4.out.tail⟩
set_option maxRecDepth 100000 in
set_option maxHeartbeats 8000000 in
theorem does_clr_pen (row : Nat) (h0 : row < L.length) (ca cb n : Int) (y : Cell) (A : Option Addr) (c : Nat) (cs : List Cell) (soft : Bool) (q : Pen) (hT : Tabs w0) (hS : Objs w0 w (.grid p 58 cols L :: .grid x 33 cols L :: os)) (hc : 0 < cols) (hcm : cols ≤ 1000) (hR : Rect cols L) (hL : 0 < L.length) (hLm : L.length ≤ 1000) (hA : RdC w0 A c cs) (hlc : cs.length ≤ 100000) (ia : -9223372036854775808 ≤ ca ∧ ca ≤ 9223372036854775807) (ib : -9223372036854775808 ≤ cb ∧ cb ≤ 9223372036854775807) (i_n : -9223372036854775808 ≤ n ∧ n ≤ 9223372036854775807) (h1 : 0 ≤ ca) (h2 : ca ≤ cb) (h3 : cb ≤ (cols : Int)) (hq : q.ok = false) :
  Calls Tryd.prog 43 #[.pointer (some ⟨p, 0, none⟩), .pointer (some ⟨x, 0, none⟩), .agg (av14 ⟨1, ↑row, ca, cb, n, y, A, c, cs, soft, q⟩)] w fun e w' => e = .returned (.bool true) ∧ Objs w0 w' (.grid p 58 cols (act14N ⟨1, ↑row, ca, cb, n, y, A, c, cs, soft, q⟩ cols L) :: .grid x 33 cols (act14N ⟨1, ↑row, ca, cb, n, y, A, c, cs, soft, q⟩ cols L) :: os) := by
 have HT := Lib.hid hT
 have S0 := Lib.hid hS
 have HR := Lib.hid hR
 have HA := Lib.hid hA
 have HM := Lib.hid (hR.mill hcm)
 have hlm2 : L.length ≤ 100000 := by omega
 have hlm3 : L.length ≤ 1000000 := by omega
 have HIA := Lib.hid ia
 have HIB := Lib.hid ib
 have HIN := Lib.hid i_n
 clear hT hS hR hA ia ib i_n
 have HE := Lib.hid (show clrE ↑row ca cb q cols L.length = 2 by have hh : here14 (row : Int) L.length = true := decide_eq_true (by omega); unfold clrE; rw [if_neg (fun h => h ⟨hh, by omega, by omega, by omega⟩), if_pos (by rw [hq]; decide)])
 have HN := Lib.hid (show act14N ⟨1, ↑row, ca, cb, n, y, A, c, cs, soft, q⟩ cols L = L by simp [act14N, HE.out])
 have HQ := Lib.hid hq
 clear hq
 go_enter Tryd.func43, Tryd.ntmps43
 go_upto_region 1 with (fail)
 refine at_objsC S0.out.alloc1 (fun W hW => ?_)
 generalize w.heap.size = b5 at hW ⊢
 have S1 := Lib.hid hW
 clear hW S0
 obtain ⟨hx, hf, hz, hr, hp, hcl, hpc⟩ := (S1.out.box (k := 0) rfl).act14
 obtain ⟨Ax, cx, hBx, -, -⟩ := S1.out.gridRd (k := 2) rfl
 obtain ⟨hxx, hfx, hzx⟩ := hBx.facts
 clear hBx
 have d1 : decide ((0 : Int) ≤ (row : Int)) = true := decide_eq_true (by omega)
 have d2 : decide ((row : Int) < (L.length : Int)) = true := decide_eq_true (by omega)
 refine wp_region_below (by kernel_rfl) (by kernel_rfl) ?_
 repeat (go_big_quiet_step (fail))
 refine wpQuiet_nil ?_
 intro w2 hb2
 have S2 := Lib.hid (S1.out.bel hb2)
 clear hb2 S1
 clear hx hf hz hr hp hcl hpc hxx hfx hzx
 obtain ⟨hx, hf, hz, hr, hp, hcl, hpc⟩ := (S2.out.box (k := 0) rfl).act14
 obtain ⟨Ax, cx, hBx, -, -⟩ := S2.out.gridRd (k := 2) rfl
 obtain ⟨hxx, hfx, hzx⟩ := hBx.facts
 clear hBx
 go_wp2_with fail
 have d3 : decide (ca < (0 : Int)) = false := decide_eq_false (by omega)
 have d4 : decide (cb < ca) = false := decide_eq_false (by omega)
 have d5 : decide ((cols : Int) < cb) = false := decide_eq_false (by omega)
 refine wp_region_below (by kernel_rfl) (by kernel_rfl) ?_
 repeat (go_big_quiet_step (fail))
 refine wpQuiet_nil ?_
 intro w2 hb2
 have S3 := Lib.hid (S2.out.bel hb2)
 clear hb2 S2
 clear hx hf hz hr hp hcl hpc hxx hfx hzx
 obtain ⟨hx, hf, hz, hr, hp, hcl, hpc⟩ := (S3.out.box (k := 0) rfl).act14
 obtain ⟨Ax, cx, hBx, -, -⟩ := S3.out.gridRd (k := 2) rfl
 obtain ⟨hxx, hfx, hzx⟩ := hBx.facts
 clear hBx
 go_wp2_with fail
 have hcon := l14inked_any q HT.out S3.out
 rw [HQ.out] at hcon
 refine hcon.mono ?_
 rintro e w3 ⟨rfl, hS⟩
 have S4 := Lib.hid hS
 clear hS hcon S3
 clear hx hf hz hr hp hcl hpc hxx hfx hzx
 obtain ⟨hx, hf, hz, hr, hp, hcl, hpc⟩ := (S4.out.box (k := 0) rfl).act14
 obtain ⟨Ax, cx, hBx, -, -⟩ := S4.out.gridRd (k := 2) rfl
 obtain ⟨hxx, hfx, hzx⟩ := hBx.facts
 clear hBx
 go_wp2_with fail
 have hcon := ClearN q HT.out S4.out (k := 1) rfl hc hcm (row := ↑row) (f := ca) (t := cb) (by rw [HE.out]; decide)
 rw [HE.out] at hcon
 refine hcon.mono ?_
 rintro e w3 ⟨rfl, hS⟩
 have S5 := Lib.hid hS
 clear hS hcon S4
 clear hx hf hz hr hp hcl hpc hxx hfx hzx
 obtain ⟨hx, hf, hz, hr, hp, hcl, hpc⟩ := (S5.out.box (k := 0) rfl).act14
 obtain ⟨Ax, cx, hBx, -, -⟩ := S5.out.gridRd (k := 2) rfl
 obtain ⟨hxx, hfx, hzx⟩ := hBx.facts
 clear hBx
 go_wp2_with fail
 go_ret
 exact ⟨rfl, by rw [HN.out]; exact S5.out.tail⟩
set_option maxRecDepth 100000 in
set_option maxHeartbeats 8000000 in
theorem does_clr_ok (row : Nat) (h0 : row < L.length) (n : Int) (y : Cell) (A : Option Addr) (c : Nat) (cs : List Cell) (soft : Bool) (q : Pen) (hT : Tabs w0) (hS : Objs w0 w (.grid p 58 cols L :: .grid x 33 cols L :: os)) (hc : 0 < cols) (hcm : cols ≤ 1000) (hR : Rect cols L) (hL : 0 < L.length) (hLm : L.length ≤ 1000) (hA : RdC w0 A c cs) (hlc : cs.length ≤ 100000) (i_n : -9223372036854775808 ≤ n ∧ n ≤ 9223372036854775807) (f t : Nat) (hft : f ≤ t) (ht : t ≤ cols) (hq : q.ok = true) :
  Calls Tryd.prog 43 #[.pointer (some ⟨p, 0, none⟩), .pointer (some ⟨x, 0, none⟩), .agg (av14 ⟨1, ↑row, ↑f, ↑t, n, y, A, c, cs, soft, q⟩)] w fun e w' => e = .returned (.bool true) ∧ Objs w0 w' (.grid p 58 cols (act14N ⟨1, ↑row, ↑f, ↑t, n, y, A, c, cs, soft, q⟩ cols L) :: .grid x 33 cols (act14N ⟨1, ↑row, ↑f, ↑t, n, y, A, c, cs, soft, q⟩ cols L) :: os) := by
 have HT := Lib.hid hT
 have S0 := Lib.hid hS
 have HR := Lib.hid hR
 have HA := Lib.hid hA
 have HM := Lib.hid (hR.mill hcm)
 have hlm2 : L.length ≤ 100000 := by omega
 have hlm3 : L.length ≤ 1000000 := by omega
 have HIN := Lib.hid i_n
 clear hT hS hR hA i_n
 have HE := Lib.hid (show clrE ↑row ↑f ↑t q cols L.length = 0 by have hh : here14 (row : Int) L.length = true := decide_eq_true (by omega); unfold clrE; rw [if_neg (fun h => h ⟨hh, by omega, by omega, by omega⟩), if_neg (fun h => h hq)])
 have HN := Lib.hid (show act14N ⟨1, ↑row, ↑f, ↑t, n, y, A, c, cs, soft, q⟩ cols L = rowMod row (clearC f t q) L by simp [act14N, HE.out])
 have HQ := Lib.hid hq
 clear hq
 go_enter Tryd.func43, Tryd.ntmps43
 go_upto_region 1 with (fail)
 refine at_objsC S0.out.alloc1 (fun W hW => ?_)
 generalize w.heap.size = b5 at hW ⊢
 have S1 := Lib.hid hW
 clear hW S0
 obtain ⟨hx, hf, hz, hr, hp, hcl, hpc⟩ := (S1.out.box (k := 0) rfl).act14
 obtain ⟨Ax, cx, hBx, -, -⟩ := S1.out.gridRd (k := 2) rfl
 obtain ⟨hxx, hfx, hzx⟩ := hBx.facts
 clear hBx
 have d1 : decide ((0 : Int) ≤ (row : Int)) = true := decide_eq_true (by omega)
 have d2 : decide ((row : Int) < (L.length : Int)) = true := decide_eq_true (by omega)
 refine wp_region_below (by kernel_rfl) (by kernel_rfl) ?_
 repeat (go_big_quiet_step (fail))
 refine wpQuiet_nil ?_
 intro w2 hb2
 have S2 := Lib.hid (S1.out.bel hb2)
 clear hb2 S1
 clear hx hf hz hr hp hcl hpc hxx hfx hzx
 obtain ⟨hx, hf, hz, hr, hp, hcl, hpc⟩ := (S2.out.box (k := 0) rfl).act14
 obtain ⟨Ax, cx, hBx, -, -⟩ := S2.out.gridRd (k := 2) rfl
 obtain ⟨hxx, hfx, hzx⟩ := hBx.facts
 clear hBx
 go_wp2_with fail
 have d3 : decide ((f : Int) < (0 : Int)) = false := decide_eq_false (by omega)
 have d4 : decide ((t : Int) < (f : Int)) = false := decide_eq_false (by omega)
 have d4n : decide ((t) < (f)) = false := decide_eq_false (by omega)
 have d5 : decide ((cols : Int) < (t : Int)) = false := decide_eq_false (by omega)
 have d5n : decide ((cols) < (t)) = false := decide_eq_false (by omega)
 refine wp_region_below (by kernel_rfl) (by kernel_rfl) ?_
 repeat (go_big_quiet_step (fail))
 refine wpQuiet_nil ?_
 intro w2 hb2
 have S3 := Lib.hid (S2.out.bel hb2)
 clear hb2 S2
 clear hx hf hz hr hp hcl hpc hxx hfx hzx
 obtain ⟨hx, hf, hz, hr, hp, hcl, hpc⟩ := (S3.out.box (k := 0) rfl).act14
 obtain ⟨Ax, cx, hBx, -, -⟩ := S3.out.gridRd (k := 2) rfl
 obtain ⟨hxx, hfx, hzx⟩ := hBx.facts
 clear hBx
 go_wp2_with fail
 have hcon := l14inked_any q HT.out S3.out
 rw [HQ.out] at hcon
 refine hcon.mono ?_
 rintro e w3 ⟨rfl, hS⟩
 have S4 := Lib.hid hS
 clear hS hcon S3
 clear hx hf hz hr hp hcl hpc hxx hfx hzx
 obtain ⟨hx, hf, hz, hr, hp, hcl, hpc⟩ := (S4.out.box (k := 0) rfl).act14
 obtain ⟨Ax, cx, hBx, -, -⟩ := S4.out.gridRd (k := 2) rfl
 obtain ⟨hxx, hfx, hzx⟩ := hBx.facts
 clear hBx
 go_wp2_with fail
 have hcon := r14ClearG q S4.out (k := 2) rfl hc hcm HR.out h0 ht (f := f)
 refine hcon.mono ?_
 rintro e w3 ⟨rfl, hS⟩
 have S5 := Lib.hid hS
 clear hS hcon S4
 clear hx hf hz hr hp hcl hpc hxx hfx hzx
 obtain ⟨hx, hf, hz, hr, hp, hcl, hpc⟩ := (S5.out.box (k := 0) rfl).act14
 obtain ⟨Ax, cx, hBx, -, -⟩ := S5.out.gridRd (k := 2) rfl
 obtain ⟨hxx, hfx, hzx⟩ := hBx.facts
 clear hBx
 go_wp2_with fail
 have hcon := ClearG q HT.out S5.out (k := 1) rfl hc hcm HR.out h0 HQ.out hft ht
 refine hcon.mono ?_
 rintro e w3 ⟨rfl, hS⟩
 have S6 := Lib.hid hS
 clear hS hcon S5
 clear hx hf hz hr hp hcl hpc hxx hfx hzx
 obtain ⟨hx, hf, hz, hr, hp, hcl, hpc⟩ := (S6.out.box (k := 0) rfl).act14
 obtain ⟨Ax, cx, hBx, -, -⟩ := S6.out.gridRd (k := 2) rfl
 obtain ⟨hxx, hfx, hzx⟩ := hBx.facts
 clear hBx
 go_wp2_with fail
 go_ret
 exact ⟨rfl, by rw [HN.out]; exact S6.out.tail⟩
set_option maxRecDepth 100000 in
set_option maxHeartbeats 8000000 in
theorem does_shf_a (row : Nat) (h0 : row < L.length) (ca cb n : Int) (y : Cell) (A : Option Addr) (c : Nat) (cs : List Cell) (soft : Bool) (q : Pen) (hT : Tabs w0) (hS : Objs w0 w (.grid p 58 cols L :: .grid x 33 cols L :: os)) (hc : 0 < cols) (hcm : cols ≤ 1000) (hR : Rect cols L) (hL : 0 < L.length) (hLm : L.length ≤ 1000) (hA : RdC w0 A c cs) (hlc : cs.length ≤ 100000) (ia : -9223372036854775808 ≤ ca ∧ ca ≤ 9223372036854775807) (ib : -9223372036854775808 ≤ cb ∧ cb ≤ 9223372036854775807) (i_n : -9223372036854775808 ≤ n ∧ n ≤ 9223372036854775807) (h1 : ca < 0) :
  Calls Tryd.prog 43 #[.pointer (some ⟨p, 0, none⟩), .pointer (some ⟨x, 0, none⟩), .agg (av14 ⟨2, ↑row, ca, cb, n, y, A, c, cs, soft, q⟩)] w fun e w' => e = .returned (.bool true) ∧ Objs w0 w' (.grid p 58 cols (act14N ⟨2, ↑row, ca, cb, n, y, A, c, cs, soft, q⟩ cols L) :: .grid x 33 cols (act14N ⟨2, ↑row, ca, cb, n, y, A, c, cs, soft, q⟩ cols L) :: os) := by
 have HT := Lib.hid hT
 have S0 := Lib.hid hS
 have HR := Lib.hid hR
 have HA := Lib.hid hA
 have HM := Lib.hid (hR.mill hcm)
 have hlm2 : L.length ≤ 100000 := by omega
 have hlm3 : L.length ≤ 1000000 := by omega
 have HIA := Lib.hid ia
 have HIB := Lib.hid ib
 have HIN := Lib.hid i_n
 clear hT hS hR hA ia ib i_n
 have HE := Lib.hid (show shfE ↑row ca q cols L.length = 3 by have hh : here14 (row : Int) L.length = true := decide_eq_true (by omega); unfold shfE; rw [if_pos (fun h => by have := h.2; omega)])
 have HN := Lib.hid (show act14N ⟨2, ↑row, ca, cb, n, y, A, c, cs, soft, q⟩ cols L = L by simp [act14N, HE.out])
 go_enter Tryd.func43, Tryd.ntmps43
 go_upto_region 1 with (fail)
 refine at_objsC S0.out.alloc1 (fun W hW => ?_)
 generalize w.heap.size = b5 at hW ⊢
 have S1 := Lib.hid hW
 clear hW S0
 obtain ⟨hx, hf, hz, hr, hp, hcl, hpc⟩ := (S1.out.box (k := 0) rfl).act14
 obtain ⟨Ax, cx, hBx, -, -⟩ := S1.out.gridRd (k := 2) rfl
 obtain ⟨hxx, hfx, hzx⟩ := hBx.facts
 clear hBx
 have d1 : decide ((0 : Int) ≤ (row : Int)) = true := decide_eq_true (by omega)
 have d2 : decide ((row : Int) < (L.length : Int)) = true := decide_eq_true (by omega)
 refine wp_region_below (by kernel_rfl) (by kernel_rfl) ?_
 repeat (go_big_quiet_step (fail))
 refine wpQuiet_nil ?_
 intro w2 hb2
 have S2 := Lib.hid (S1.out.bel hb2)
 clear hb2 S1
 clear hx hf hz hr hp hcl hpc hxx hfx hzx
 obtain ⟨hx, hf, hz, hr, hp, hcl, hpc⟩ := (S2.out.box (k := 0) rfl).act14
 obtain ⟨Ax, cx, hBx, -, -⟩ := S2.out.gridRd (k := 2) rfl
 obtain ⟨hxx, hfx, hzx⟩ := hBx.facts
 clear hBx
 go_wp2_with fail
 have d3 : decide (ca < (0 : Int)) = true := decide_eq_true (by omega)
 refine wp_region_below (by kernel_rfl) (by kernel_rfl) ?_
 repeat (go_big_quiet_step (fail))
 refine wpQuiet_nil ?_
 intro w2 hb2
 have S3 := Lib.hid (S2.out.bel hb2)
 clear hb2 S2
 clear hx hf hz hr hp hcl hpc hxx hfx hzx
 obtain ⟨hx, hf, hz, hr, hp, hcl, hpc⟩ := (S3.out.box (k := 0) rfl).act14
 obtain ⟨Ax, cx, hBx, -, -⟩ := S3.out.gridRd (k := 2) rfl
 obtain ⟨hxx, hfx, hzx⟩ := hBx.facts
 clear hBx
 go_wp2_with fail
 have hcon := ShiftN q HT.out S3.out (k := 1) rfl hc hcm (row := ↑row) (col := ca) (n := cb) (by rw [HE.out]; decide)
 rw [HE.out] at hcon
 refine hcon.mono ?_
 rintro e w3 ⟨rfl, hS⟩
 have S4 := Lib.hid hS
 clear hS hcon S3
 clear hx hf hz hr hp hcl hpc hxx hfx hzx
 obtain ⟨hx, hf, hz, hr, hp, hcl, hpc⟩ := (S4.out.box (k := 0) rfl).act14
 obtain ⟨Ax, cx, hBx, -, -⟩ := S4.out.gridRd (k := 2) rfl
 obtain ⟨hxx, hfx, hzx⟩ := hBx.facts
 clear hBx
 go_wp2_with fail
 go_ret
 exact ⟨rfl, by rw [HN.out]; exact S4.out.tail⟩
set_option maxRecDepth 100000 in
set_option maxHeartbeats 8000000 in
theorem does_shf_b (row : Nat) (h0 : row < L.length) (ca cb n : Int) (y : Cell) (A : Option Addr) (c : Nat) (cs : List Cell) (soft : Bool) (q : Pen) (hT : Tabs w0) (hS : Objs w0 w (.grid p 58 cols L :: .grid x 33 cols L :: os)) (hc : 0 < cols) (hcm : cols ≤ 1000) (hR : Rect cols L) (hL : 0 < L.length) (hLm : L.length ≤ 1000) (hA : RdC w0 A c cs) (hlc : cs.length ≤ 100000) (ia : -9223372036854775808 ≤ ca ∧ ca ≤ 9223372036854775807) (ib : -9223372036854775808 ≤ cb ∧ cb ≤ 9223372036854775807) (i_n : -9223372036854775808 ≤ n ∧ n ≤ 9223372036854775807) (h1 : 0 ≤ ca) (h2 : (cols : Int) ≤ ca) :
  Calls Tryd.prog 43 #[.pointer (some ⟨p, 0, none⟩), .pointer (some ⟨x, 0, none⟩), .agg (av14 ⟨2, ↑row, ca, cb, n, y, A, c, cs, soft, q⟩)] w fun e w' => e = .returned (.bool true) ∧ Objs w0 w' (.grid p 58 cols (act14N ⟨2, ↑row, ca, cb, n, y, A, c, cs, soft, q⟩ cols L) :: .grid x 33 cols (act14N ⟨2, ↑row, ca, cb, n, y, A, c, cs, soft, q⟩ cols L) :: os) := by
 have HT := Lib.hid hT
 have S0 := Lib.hid hS
 have HR := Lib.hid hR
 have HA := Lib.hid hA
 have HM := Lib.hid (hR.mill hcm)
 have hlm2 : L.length ≤ 100000 := by omega
 have hlm3 : L.length ≤ 1000000 := by omega
 have HIA := Lib.hid ia
 have HIB := Lib.hid ib
 have HIN := Lib.hid i_n
 clear hT hS hR hA ia ib i_n
 have HE := Lib.hid (show shfE ↑row ca q cols L.length = 3 by have hh : here14 (row : Int) L.length = true := decide_eq_true (by omega); unfold shfE; rw [if_pos (fun h => by have := h.2; omega)])
 have HN := Lib.hid (show act14N ⟨2, ↑row, ca, cb, n, y, A, c, cs, soft, q⟩ cols L = L by simp [act14N, HE.out])
 go_enter Tryd.func43, Tryd.ntmps43
 go_upto_region 1 with (fail)
 refine at_objsC S0.out.alloc1 (fun W hW => ?_)
 generalize w.heap.size = b5 at hW ⊢
 have S1 := Lib.hid hW
 clear hW S0
 obtain ⟨hx, hf, hz, hr, hp, hcl, hpc⟩ := (S1.out.box (k := 0) rfl).act14
 obtain ⟨Ax, cx, hBx, -, -⟩ := S1.out.gridRd (k := 2) rfl
 obtain ⟨hxx, hfx, hzx⟩ := hBx.facts
 clear hBx
 have d1 : decide ((0 : Int) ≤ (row : Int)) = true := decide_eq_true (by omega)
 have d2 : decide ((row : Int) < (L.length : Int)) = true := decide_eq_true (by omega)
 refine wp_region_below (by kernel_rfl) (by kernel_rfl) ?_
 repeat (go_big_quiet_step (fail))
 refine wpQuiet_nil ?_
 intro w2 hb2
 have S2 := Lib.hid (S1.out.bel hb2)
 clear hb2 S1
 clear hx hf hz hr hp hcl hpc hxx hfx hzx
 obtain ⟨hx, hf, hz, hr, hp, hcl, hpc⟩ := (S2.out.box (k := 0) rfl).act14
 obtain ⟨Ax, cx, hBx, -, -⟩ := S2.out.gridRd (k := 2) rfl
 obtain ⟨hxx, hfx, hzx⟩ := hBx.facts
 clear hBx
 go_wp2_with fail
 have d3 : decide (ca < (0 : Int)) = false := decide_eq_false (by omega)
 have d4 : decide ((cols : Int) ≤ ca) = true := decide_eq_true (by omega)
 refine wp_region_below (by kernel_rfl) (by kernel_rfl) ?_
 repeat (go_big_quiet_step (fail))
 refine wpQuiet_nil ?_
 intro w2 hb2
 have S3 := Lib.hid (S2.out.bel hb2)
 clear hb2 S2
 clear hx hf hz hr hp hcl hpc hxx hfx hzx
 obtain ⟨hx, hf, hz, hr, hp, hcl, hpc⟩ := (S3.out.box (k := 0) rfl).act14
 obtain ⟨Ax, cx, hBx, -, -⟩ := S3.out.gridRd (k := 2) rfl
 obtain ⟨hxx, hfx, hzx⟩ := hBx.facts
 clear hBx
 go_wp2_with fail
 have hcon := ShiftN q HT.out S3.out (k := 1) rfl hc hcm (row := ↑row) (col := ca) (n := cb) (by rw [HE.out]; decide)
 rw [HE.out] at hcon
 refine hcon.mono ?_
 rintro e w3 ⟨rfl, hS⟩
 have S4 := Lib.hid hS
 clear hS hcon S3
 clear hx hf hz hr hp hcl hpc hxx hfx hzx
 obtain ⟨hx, hf, hz, hr, hp, hcl, hpc⟩ := (S4.out.box (k := 0) rfl).act14
 obtain ⟨Ax, cx, hBx, -, -⟩ := S4.out.gridRd (k := 2) rfl
 obtain ⟨hxx, hfx, hzx⟩ := hBx.facts
 clear hBx
 go_wp2_with fail
 go_ret
 exact ⟨rfl, by rw [HN.out]; exact S4.out.tail⟩
set_option maxRecDepth 100000 in
set_option maxHeartbeats 8000000 in
theorem does_shf_pen (row : Nat) (h0 : row < L.length) (ca cb n : Int) (y : Cell) (A : Option Addr) (c : Nat) (cs : List Cell) (soft : Bool) (q : Pen) (hT : Tabs w0) (hS : Objs w0 w (.grid p 58 cols L :: .grid x 33 cols L :: os)) (hc : 0 < cols) (hcm : cols ≤ 1000) (hR : Rect cols L) (hL : 0 < L.length) (hLm : L.length ≤ 1000) (hA : RdC w0 A c cs) (hlc : cs.length ≤ 100000) (ia : -9223372036854775808 ≤ ca ∧ ca ≤ 9223372036854775807) (ib : -9223372036854775808 ≤ cb ∧ cb ≤ 9223372036854775807) (i_n : -9223372036854775808 ≤ n ∧ n ≤ 9223372036854775807) (h1 : 0 ≤ ca) (h2 : ca < (cols : Int)) (hq : q.ok = false) :
  Calls Tryd.prog 43 #[.pointer (some ⟨p, 0, none⟩), .pointer (some ⟨x, 0, none⟩), .agg (av14 ⟨2, ↑row, ca, cb, n, y, A, c, cs, soft, q⟩)] w fun e w' => e = .returned (.bool true) ∧ Objs w0 w' (.grid p 58 cols (act14N ⟨2, ↑row, ca, cb, n, y, A, c, cs, soft, q⟩ cols L) :: .grid x 33 cols (act14N ⟨2, ↑row, ca, cb, n, y, A, c, cs, soft, q⟩ cols L) :: os) := by
 have HT := Lib.hid hT
 have S0 := Lib.hid hS
 have HR := Lib.hid hR
 have HA := Lib.hid hA
 have HM := Lib.hid (hR.mill hcm)
 have hlm2 : L.length ≤ 100000 := by omega
 have hlm3 : L.length ≤ 1000000 := by omega
 have HIA := Lib.hid ia
 have HIB := Lib.hid ib
 have HIN := Lib.hid i_n
 clear hT hS hR hA ia ib i_n
 have HE := Lib.hid (show shfE ↑row ca q cols L.length = 2 by have hh : here14 (row : Int) L.length = true := decide_eq_true (by omega); unfold shfE; rw [if_neg (fun h => h ⟨hh, by omega, by omega⟩), if_pos (by rw [hq]; decide)])
 have HN := Lib.hid (show act14N ⟨2, ↑row, ca, cb, n, y, A, c, cs, soft, q⟩ cols L = L by simp [act14N, HE.out])
 have HQ := Lib.hid hq
 clear hq
 go_enter Tryd.func43, Tryd.ntmps43
 go_upto_region 1 with (fail)
 refine at_objsC S0.out.alloc1 (fun W hW => ?_)
 generalize w.heap.size = b5 at hW ⊢
 have S1 := Lib.hid hW
 clear hW S0
 obtain ⟨hx, hf, hz, hr, hp, hcl, hpc⟩ := (S1.out.box (k := 0) rfl).act14
 obtain ⟨Ax, cx, hBx, -, -⟩ := S1.out.gridRd (k := 2) rfl
 obtain ⟨hxx, hfx, hzx⟩ := hBx.facts
 clear hBx
 have d1 : decide ((0 : Int) ≤ (row : Int)) = true := decide_eq_true (by omega)
 have d2 : decide ((row : Int) < (L.length : Int)) = true := decide_eq_true (by omega)
 refine wp_region_below (by kernel_rfl) (by kernel_rfl) ?_
 repeat (go_big_quiet_step (fail))
 refine wpQuiet_nil ?_
 intro w2 hb2
 have S2 := Lib.hid (S1.out.bel hb2)
 clear hb2 S1
 clear hx hf hz hr hp hcl hpc hxx hfx hzx
 obtain ⟨hx, hf, hz, hr, hp, hcl, hpc⟩ := (S2.out.box (k := 0) rfl).act14
 obtain ⟨Ax, cx, hBx, -, -⟩ := S2.out.gridRd (k := 2) rfl
 obtain ⟨hxx, hfx, hzx⟩ := hBx.facts
 clear hBx
 go_wp2_with fail
 have d3 : decide (ca < (0 : Int)) = false := decide_eq_false (by omega)
 have d4 : decide ((cols : Int) ≤ ca) = false := decide_eq_false (by omega)
 refine wp_region_below (by kernel_rfl) (by kernel_rfl) ?_
 repeat (go_big_quiet_step (fail))
 refine wpQuiet_nil ?_
 intro w2 hb2
 have S3 := Lib.hid (S2.out.bel hb2)
 clear hb2 S2
 clear hx hf hz hr hp hcl hpc hxx hfx hzx
 obtain ⟨hx, hf, hz, hr, hp, hcl, hpc⟩ := (S3.out.box (k := 0) rfl).act14
 obtain ⟨Ax, cx, hBx, -, -⟩ := S3.out.gridRd (k := 2) rfl
 obtain ⟨hxx, hfx, hzx⟩ := hBx.facts
 clear hBx
 go_wp2_with fail
 have hcon := l14inked_any q HT.out S3.out
 rw [HQ.out] at hcon
 refine hcon.mono ?_
 rintro e w3 ⟨rfl, hS⟩
 have S4 := Lib.hid hS
 clear hS hcon S3
 clear hx hf hz hr hp hcl hpc hxx hfx hzx
 obtain ⟨hx, hf, hz, hr, hp, hcl, hpc⟩ := (S4.out.box (k := 0) rfl).act14
 obtain ⟨Ax, cx, hBx, -, -⟩ := S4.out.gridRd (k := 2) rfl
 obtain ⟨hxx, hfx, hzx⟩ := hBx.facts
 clear hBx
 go_wp2_with fail
 have hcon := ShiftN q HT.out S4.out (k := 1) rfl hc hcm (row := ↑row) (col := ca) (n := cb) (by rw [HE.out]; decide)
 rw [HE.out] at hcon
 refine hcon.mono ?_
 rintro e w3 ⟨rfl, hS⟩
 have S5 := Lib.hid hS
 clear hS hcon S4
 clear hx hf hz hr hp hcl hpc hxx hfx hzx
 obtain ⟨hx, hf, hz, hr, hp, hcl, hpc⟩ := (S5.out.box (k := 0) rfl).act14
 obtain ⟨Ax, cx, hBx, -, -⟩ := S5.out.gridRd (k := 2) rfl
 obtain ⟨hxx, hfx, hzx⟩ := hBx.facts
 clear hBx
 go_wp2_with fail
 go_ret
 exact ⟨rfl, by rw [HN.out]; exact S5.out.tail⟩
set_option maxRecDepth 100000 in
set_option maxHeartbeats 8000000 in
theorem does_shf_ok (row : Nat) (h0 : row < L.length) (cb n : Int) (y : Cell) (A : Option Addr) (c : Nat) (cs : List Cell) (soft : Bool) (q : Pen) (hT : Tabs w0) (hS : Objs w0 w (.grid p 58 cols L :: .grid x 33 cols L :: os)) (hc : 0 < cols) (hcm : cols ≤ 1000) (hR : Rect cols L) (hL : 0 < L.length) (hLm : L.length ≤ 1000) (hA : RdC w0 A c cs) (hlc : cs.length ≤ 100000) (ib : -9223372036854775808 ≤ cb ∧ cb ≤ 9223372036854775807) (i_n : -9223372036854775808 ≤ n ∧ n ≤ 9223372036854775807) (j : Nat) (hj : j < cols) (hq : q.ok = true) :
  Calls Tryd.prog 43 #[.pointer (some ⟨p, 0, none⟩), .pointer (some ⟨x, 0, none⟩), .agg (av14 ⟨2, ↑row, ↑j, cb, n, y, A, c, cs, soft, q⟩)] w fun e w' => e = .returned (.bool true) ∧ Objs w0 w' (.grid p 58 cols (act14N ⟨2, ↑row, ↑j, cb, n, y, A, c, cs, soft, q⟩ cols L) :: .grid x 33 cols (act14N ⟨2, ↑row, ↑j, cb, n, y, A, c, cs, soft, q⟩ cols L) :: os) := by
 have HT := Lib.hid hT
 have S0 := Lib.hid hS
 have HR := Lib.hid hR
 have HA := Lib.hid hA
 have HM := Lib.hid (hR.mill hcm)
 have hlm2 : L.length ≤ 100000 := by omega
 have hlm3 : L.length ≤ 1000000 := by omega
 have HIB := Lib.hid ib
 have HIN := Lib.hid i_n
 clear hT hS hR hA ib i_n
 have HE := Lib.hid (show shfE ↑row ↑j q cols L.length = 0 by have hh : here14 (row : Int) L.length = true := decide_eq_true (by omega); unfold shfE; rw [if_neg (fun h => h ⟨hh, by omega, by omega⟩), if_neg (fun h => h hq)])
 have HN := Lib.hid (show act14N ⟨2, ↑row, ↑j, cb, n, y, A, c, cs, soft, q⟩ cols L = rowMod row (shiftN j cols cb q) L by simp [act14N, HE.out])
 have HQ := Lib.hid hq
 clear hq
 go_enter Tryd.func43, Tryd.ntmps43
 go_upto_region 1 with (fail)
 refine at_objsC S0.out.alloc1 (fun W hW => ?_)
 generalize w.heap.size = b5 at hW ⊢
 have S1 := Lib.hid hW
 clear hW S0
 obtain ⟨hx, hf, hz, hr, hp, hcl, hpc⟩ := (S1.out.box (k := 0) rfl).act14
 obtain ⟨Ax, cx, hBx, -, -⟩ := S1.out.gridRd (k := 2) rfl
 obtain ⟨hxx, hfx, hzx⟩ := hBx.facts
 clear hBx
 have d1 : decide ((0 : Int) ≤ (row : Int)) = true := decide_eq_true (by omega)
 have d2 : decide ((row : Int) < (L.length : Int)) = true := decide_eq_true (by omega)
 refine wp_region_below (by kernel_rfl) (by kernel_rfl) ?_
 repeat (go_big_quiet_step (fail))
 refine wpQuiet_nil ?_
 intro w2 hb2
 have S2 := Lib.hid (S1.out.bel hb2)
 clear hb2 S1
 clear hx hf hz hr hp hcl hpc hxx hfx hzx
 obtain ⟨hx, hf, hz, hr, hp, hcl, hpc⟩ := (S2.out.box (k := 0) rfl).act14
 obtain ⟨Ax, cx, hBx, -, -⟩ := S2.out.gridRd (k := 2) rfl
 obtain ⟨hxx, hfx, hzx⟩ := hBx.facts
 clear hBx
 go_wp2_with fail
 have d3 : decide ((j : Int) < (0 : Int)) = false := decide_eq_false (by omega)
 have d4 : decide ((cols : Int) ≤ (j : Int)) = false := decide_eq_false (by omega)
 have d4n : decide ((cols) ≤ (j)) = false := decide_eq_false (by omega)
 refine wp_region_below (by kernel_rfl) (by kernel_rfl) ?_
 repeat (go_big_quiet_step (fail))
 refine wpQuiet_nil ?_
 intro w2 hb2
 have S3 := Lib.hid (S2.out.bel hb2)
 clear hb2 S2
 clear hx hf hz hr hp hcl hpc hxx hfx hzx
 obtain ⟨hx, hf, hz, hr, hp, hcl, hpc⟩ := (S3.out.box (k := 0) rfl).act14
 obtain ⟨Ax, cx, hBx, -, -⟩ := S3.out.gridRd (k := 2) rfl
 obtain ⟨hxx, hfx, hzx⟩ := hBx.facts
 clear hBx
 go_wp2_with fail
 have hcon := l14inked_any q HT.out S3.out
 rw [HQ.out] at hcon
 refine hcon.mono ?_
 rintro e w3 ⟨rfl, hS⟩
 have S4 := Lib.hid hS
 clear hS hcon S3
 clear hx hf hz hr hp hcl hpc hxx hfx hzx
 obtain ⟨hx, hf, hz, hr, hp, hcl, hpc⟩ := (S4.out.box (k := 0) rfl).act14
 obtain ⟨Ax, cx, hBx, -, -⟩ := S4.out.gridRd (k := 2) rfl
 obtain ⟨hxx, hfx, hzx⟩ := hBx.facts
 clear hBx
 go_wp2_with fail
 have hcon := r14ShiftG cb q S4.out (k := 2) rfl hcm HR.out h0 hj HIB.out
 refine hcon.mono ?_
 rintro e w3 ⟨rfl, hS⟩
 have S5 := Lib.hid hS
 clear hS hcon S4
 clear hx hf hz hr hp hcl hpc hxx hfx hzx
 obtain ⟨hx, hf, hz, hr, hp, hcl, hpc⟩ := (S5.out.box (k := 0) rfl).act14
 obtain ⟨Ax, cx, hBx, -, -⟩ := S5.out.gridRd (k := 2) rfl
 obtain ⟨hxx, hfx, hzx⟩ := hBx.facts
 clear hBx
 go_wp2_with fail
 have hcon := ShiftG cb q HT.out S5.out (k := 1) rfl hcm HR.out h0 HQ.out hj HIB.out
 refine hcon.mono ?_
 rintro e w3 ⟨rfl, hS⟩
 have S6 := Lib.hid hS
 clear hS hcon S5
 clear hx hf hz hr hp hcl hpc hxx hfx hzx
 obtain ⟨hx, hf, hz, hr, hp, hcl, hpc⟩ := (S6.out.box (k := 0) rfl).act14
 obtain ⟨Ax, cx, hBx, -, -⟩ := S6.out.gridRd (k := 2) rfl
 obtain ⟨hxx, hfx, hzx⟩ := hBx.facts
 clear hBx
 go_wp2_with fail
 go_ret
 exact ⟨rfl, by rw [HN.out]; exact S6.out.tail⟩
end
end Go.Proofs.YtppijfjigcoifaaDoor

namespace Go.Proofs.YtppijfjigcoifaaDoor
open Go.RowKit

theorem Objs.softAt {w0 w : World} {os : List Ob} {k i : Nat} {v : Value} {L : List Ln} {l : Ln} (hS : Objs w0 w os) (hk : os[k]? = some (.lines v L)) (hl : L[i]? = some l) : ∃ g c, v = .slice (some ⟨g, 0, none⟩) L.length c ∧ g < w.heap.size ∧ w.cell? ⟨g, i * 2 + 1, none⟩ = some (.bool l.2) ∧ ∀ j, w.frozen? ⟨g, j, none⟩ = false := by
 obtain ⟨F, bs, hF, -⟩ := hS.get hk
 obtain ⟨A2, c2, rfl, -, -, -, h4⟩ := hF.form
 obtain ⟨g, rfl, hz, -, hso, hfz⟩ := h4 (by have := (List.getElem?_eq_some_iff.1 hl).1; omega)
 exact ⟨g, c2, rfl, hz, hso i l hl, hfz⟩
section
variable {w0 w : World} {os : List Ob} {p x cols : Nat} {L : List Ln}
set_option maxRecDepth 100000 in
set_option maxHeartbeats 8000000 in
theorem does_soft_out (row : Int) (h0 : row < 0 ∨ (0 ≤ row ∧ (L.length : Int) ≤ row)) (ca cb n : Int) (y : Cell) (A : Option Addr) (c : Nat) (cs : List Cell) (soft : Bool) (q : Pen) (hT : Tabs w0) (hS : Objs w0 w (.grid p 58 cols L :: .grid x 33 cols L :: os)) (hc : 0 < cols) (hcm : cols ≤ 1000) (hR : Rect cols L) (hL : 0 < L.length) (hLm : L.length ≤ 1000) (hA : RdC w0 A c cs) (hlc : cs.length ≤ 100000) (ia : -9223372036854775808 ≤ ca ∧ ca ≤ 9223372036854775807) (ib : -9223372036854775808 ≤ cb ∧ cb ≤ 9223372036854775807) (i_n : -9223372036854775808 ≤ n ∧ n ≤ 9223372036854775807) :
  Calls Tryd.prog 43 #[.pointer (some ⟨p, 0, none⟩), .pointer (some ⟨x, 0, none⟩), .agg (av14 ⟨4, row, ca, cb, n, y, A, c, cs, soft, q⟩)] w fun e w' => e = .returned (.bool true) ∧ Objs w0 w' (.grid p 58 cols (act14N ⟨4, row, ca, cb, n, y, A, c, cs, soft, q⟩ cols L) :: .grid x 33 cols (act14N ⟨4, row, ca, cb, n, y, A, c, cs, soft, q⟩ cols L) :: os) := by
 have HT := Lib.hid hT
 have S0 := Lib.hid hS
 have HR := Lib.hid hR
 have HA := Lib.hid hA
 have HM := Lib.hid (hR.mill hcm)
 have hlm2 : L.length ≤ 100000 := by omega
 have hlm3 : L.length ≤ 1000000 := by omega
 have HIA := Lib.hid ia
 have HIB := Lib.hid ib
 have HIN := Lib.hid i_n
 clear hT hS hR hA ia ib i_n
 rcases h0 with h0 | ⟨h0, h1⟩
 all_goals
  have HE := Lib.hid (show here14 row L.length = false by exact decide_eq_false (by omega))
  have HN := Lib.hid (show act14N ⟨4, row, ca, cb, n, y, A, c, cs, soft, q⟩ cols L = L by simp [act14N, HE.out])
  have HH := HE
  go_enter Tryd.func43, Tryd.ntmps43
  go_upto_region 1 with (fail)
  refine at_objsC S0.out.alloc1 (fun W hW => ?_)
  generalize w.heap.size = b5 at hW ⊢
  have S1 := Lib.hid hW
  clear hW S0
  obtain ⟨hx, hf, hz, hr, hp, hcl, hpc⟩ := (S1.out.box (k := 0) rfl).act14
  obtain ⟨Ax, cx, hBx, -, -⟩ := S1.out.gridRd (k := 2) rfl
  obtain ⟨hxx, hfx, hzx⟩ := hBx.facts
  clear hBx
  first | (have d1 : decide ((0 : Int) ≤ row) = false := decide_eq_false (by omega)) | (have d1 : decide ((0 : Int) ≤ row) = true := decide_eq_true (by omega))
  first | (have d2 : decide (row < (L.length : Int)) = false := decide_eq_false (by omega)) | (have d2 : decide (row < (L.length : Int)) = true := decide_eq_true (by omega))
  refine wp_region_below (by kernel_rfl) (by kernel_rfl) ?_
  repeat (go_big_quiet_step (fail))
  refine wpQuiet_nil ?_
  intro w2 hb2
  have S2 := Lib.hid (S1.out.bel hb2)
  clear hb2 S1
  clear hx hf hz hr hp hcl hpc hxx hfx hzx
  obtain ⟨hx, hf, hz, hr, hp, hcl, hpc⟩ := (S2.out.box (k := 0) rfl).act14
  obtain ⟨Ax, cx, hBx, -, -⟩ := S2.out.gridRd (k := 2) rfl
  obtain ⟨hxx, hfx, hzx⟩ := hBx.facts
  clear hBx
  go_wp2_with fail
  have hcon := SetSoftN (decide (0 < ca)) S2.out (k := 1) rfl hc HH.out (row := row)
  refine hcon.mono ?_
  rintro e w3 ⟨rfl, hS⟩
  have S3 := Lib.hid hS
  clear hS hcon S2
  clear hx hf hz hr hp hcl hpc hxx hfx hzx
  obtain ⟨hx, hf, hz, hr, hp, hcl, hpc⟩ := (S3.out.box (k := 0) rfl).act14
  obtain ⟨Ax, cx, hBx, -, -⟩ := S3.out.gridRd (k := 2) rfl
  obtain ⟨hxx, hfx, hzx⟩ := hBx.facts
  clear hBx
  go_wp2_with fail
  go_ret
  exact ⟨rfl, by rw [HN.out]; exact S3.out.tail⟩
set_option maxRecDepth 100000 in
set_option maxHeartbeats 8000000 in
theorem does_soft_yes (row : Nat) (h0 : row < L.length) (ca cb n : Int) (y : Cell) (A : Option Addr) (c : Nat) (cs : List Cell) (soft : Bool) (q : Pen) (hT : Tabs w0) (hS : Objs w0 w (.grid p 58 cols L :: .grid x 33 cols L :: os)) (hc : 0 < cols) (hcm : cols ≤ 1000) (hR : Rect cols L) (hL : 0 < L.length) (hLm : L.length ≤ 1000) (hA : RdC w0 A c cs) (hlc : cs.length ≤ 100000) (ia : -9223372036854775808 ≤ ca ∧ ca ≤ 9223372036854775807) (ib : -9223372036854775808 ≤ cb ∧ cb ≤ 9223372036854775807) (i_n : -9223372036854775808 ≤ n ∧ n ≤ 9223372036854775807) :
  Calls Tryd.prog 43 #[.pointer (some ⟨p, 0, none⟩), .pointer (some ⟨x, 0, none⟩), .agg (av14 ⟨4, ↑row, ca, cb, n, y, A, c, cs, soft, q⟩)] w fun e w' => e = .returned (.bool true) ∧ Objs w0 w' (.grid p 58 cols (act14N ⟨4, ↑row, ca, cb, n, y, A, c, cs, soft, q⟩ cols L) :: .grid x 33 cols (act14N ⟨4, ↑row, ca, cb, n, y, A, c, cs, soft, q⟩ cols L) :: os) := by
 have HT := Lib.hid hT
 have S0 := Lib.hid hS
 have HR := Lib.hid hR
 have HA := Lib.hid hA
 have HM := Lib.hid (hR.mill hcm)
 have hlm2 : L.length ≤ 100000 := by omega
 have hlm3 : L.length ≤ 1000000 := by omega
 have HIA := Lib.hid ia
 have HIB := Lib.hid ib
 have HIN := Lib.hid i_n
 clear hT hS hR hA ia ib i_n
 have HE := Lib.hid (show here14 (row : Int) L.length = true by exact decide_eq_true (by omega))
 have HN := Lib.hid (show act14N ⟨4, ↑row, ca, cb, n, y, A, c, cs, soft, q⟩ cols L = softMod row (decide (0 < ca)) L by simp [act14N, HE.out])
 go_enter Tryd.func43, Tryd.ntmps43
 go_upto_region 1 with (fail)
 refine at_objsC S0.out.alloc1 (fun W hW => ?_)
 generalize w.heap.size = b5 at hW ⊢
 have S1 := Lib.hid hW
 clear hW S0
 obtain ⟨hx, hf, hz, hr, hp, hcl, hpc⟩ := (S1.out.box (k := 0) rfl).act14
 obtain ⟨Ax, cx, hBx, -, -⟩ := S1.out.gridRd (k := 2) rfl
 obtain ⟨hxx, hfx, hzx⟩ := hBx.facts
 clear hBx
 have d1 : decide ((0 : Int) ≤ (row : Int)) = true := decide_eq_true (by omega)
 have d2 : decide ((row : Int) < (L.length : Int)) = true := decide_eq_true (by omega)
 refine wp_region_below (by kernel_rfl) (by kernel_rfl) ?_
 repeat (go_big_quiet_step (fail))
 refine wpQuiet_nil ?_
 intro w2 hb2
 have S2 := Lib.hid (S1.out.bel hb2)
 clear hb2 S1
 clear hx hf hz hr hp hcl hpc hxx hfx hzx
 obtain ⟨hx, hf, hz, hr, hp, hcl, hpc⟩ := (S2.out.box (k := 0) rfl).act14
 obtain ⟨Ax, cx, hBx, -, -⟩ := S2.out.gridRd (k := 2) rfl
 obtain ⟨hxx, hfx, hzx⟩ := hBx.facts
 clear hBx
 go_wp2_with fail
 clear hx hf hz hr hp hcl hpc hxx hfx hzx
 obtain ⟨l, hl⟩ := get_of h0
 have HL := Lib.hid hl
 clear hl
 refine at_objsC S2.out (fun W hW => ?_)
 obtain ⟨v, hO⟩ := hW.openGrid (k := 2) rfl
 obtain ⟨gx, cx, rfl, -, -, -⟩ := hO.softAt (k := 0) rfl HL.out
 have SO := Lib.hid (show Objs w0 W (.lines (.slice (some ⟨gx, 0, none⟩) L.length cx) L :: .box b5 90 (av14 ⟨4, ↑row, ca, cb, n, y, A, c, cs, soft, q⟩) :: .grid p 58 ↑cols L :: .box x 33 #[.int .i64 ↑cols, .slice (some ⟨gx, 0, none⟩) L.length cx] :: os) from hO)
 have hb0 : (0 : Int) ≤ (row : Int) := by omega
 have hb1 : (row : Int) < (L.length : Int) := by omega
 clear hW hO S2
 refine wp_region_stage (w0 := w0) (os := os) (by kernel_rfl) (by kernel_rfl) (by kernel_rfl) [(0, 11, [], fun vs => .lines (.slice (some ⟨gx, 0, none⟩) L.length cx) (L.set row (l.1, decide (0 < ca))))] [[], [], [], [3], [], [1], [], [1], [], [], [], [0]] [.lines (.slice (some ⟨gx, 0, none⟩) L.length cx) L, .box b5 90 (av14 ⟨4, ↑row, ca, cb, n, y, A, c, cs, soft, q⟩), .grid p 58 ↑cols L, .box x 33 #[.int .i64 ↑cols, .slice (some ⟨gx, 0, none⟩) L.length cx]] (fun opn u => match opn with | 0 => u = .pointer (some ⟨x, 0, none⟩) | 1 => u = .pointer (some ⟨x, 0, none⟩) | 2 => u = .pointer (some ⟨x, 1, none⟩) | 3 => u = .slice (some ⟨gx, 0, none⟩) L.length cx | 4 => u = .pointer (some ⟨b5, 1, none⟩) | 5 => u = .int .i64 ↑row | 6 => u = .pointer (some ⟨b5, 2, none⟩) | 7 => u = .int .i64 ca | 8 => u = .bool (decide (0 < ca)) | 9 => u = .pointer (some ⟨gx, row * 2, none⟩) | 10 => u = .pointer (some ⟨gx, row * 2 + 1, none⟩) | 11 => True | _ => True) (fun vs => [.lines (.slice (some ⟨gx, 0, none⟩) L.length cx) (L.set row (l.1, decide (0 < ca))), .box b5 90 (av14 ⟨4, ↑row, ca, cb, n, y, A, c, cs, soft, q⟩), .grid p 58 ↑cols L, .box x 33 #[.int .i64 ↑cols, .slice (some ⟨gx, 0, none⟩) L.length cx]]) (by kernel_rfl) (fun vs => by rfl) SO.out ?_ ?_
 ·refine SSteps.cons (fun a w' vs σ hS hl hs hk => ?_) ?_
  ·have f1 : a.tmps[1]?.getD undef = .pointer (some ⟨x, 0, none⟩) := sof hk
   exact rp (.pointer (some ⟨x, 0, none⟩)) (by simp [execOp, Act.eval, f1, go_sem]) hl hs hS
  refine SSteps.cons (fun a w' vs σ hS hl hs hk => ?_) ?_
  ·have f269 : a.tmps[269]?.getD undef = .pointer (some ⟨x, 0, none⟩) := sf hk 0
   exact rp (.pointer (some ⟨x, 0, none⟩)) (by simp [execOp, Act.eval, f269, go_sem]) hl hs hS
  refine SSteps.cons (fun a w' vs σ hS hl hs hk => ?_) ?_
  ·have f270 : a.tmps[270]?.getD undef = .pointer (some ⟨x, 0, none⟩) := sf hk 1
   exact rp (.pointer (some ⟨x, 1, none⟩)) (by simp [execOp, Act.eval, f270, go_sem]) hl hs hS
  refine SSteps.cons (fun a w' vs σ hS hl hs hk => ?_) ?_
  ·have f271 : a.tmps[271]?.getD undef = .pointer (some ⟨x, 1, none⟩) := sf hk 2
   have hx := (hS.box (sg (hs 3 (by decide)))).cell
   exact rp (.slice (some ⟨gx, 0, none⟩) L.length cx) (by simp [execOp, Act.eval, f271, go_sem, hx]) hl hs hS
  refine SSteps.cons (fun a w' vs σ hS hl hs hk => ?_) ?_
  ·have f5 : a.tmps[5]?.getD undef = .pointer (some ⟨b5, 0, none⟩) := sof hk
   exact rp (.pointer (some ⟨b5, 1, none⟩)) (by simp [execOp, Act.eval, f5, go_sem]) hl hs hS
  refine SSteps.cons (fun a w' vs σ hS hl hs hk => ?_) ?_
  ·have f273 : a.tmps[273]?.getD undef = .pointer (some ⟨b5, 1, none⟩) := sf hk 4
   have hx := (hS.box (sg (hs 1 (by decide)))).cell
   exact rp (.int .i64 ↑row) (by simp [execOp, Act.eval, f273, go_sem, hx]) hl hs hS
  refine SSteps.cons (fun a w' vs σ hS hl hs hk => ?_) ?_
  ·have f5 : a.tmps[5]?.getD undef = .pointer (some ⟨b5, 0, none⟩) := sof hk
   exact rp (.pointer (some ⟨b5, 2, none⟩)) (by simp [execOp, Act.eval, f5, go_sem]) hl hs hS
  refine SSteps.cons (fun a w' vs σ hS hl hs hk => ?_) ?_
  ·have f275 : a.tmps[275]?.getD undef = .pointer (some ⟨b5, 2, none⟩) := sf hk 6
   have hx := (hS.box (sg (hs 1 (by decide)))).cell
   exact rp (.int .i64 ca) (by simp [execOp, Act.eval, f275, go_sem, hx]) hl hs hS
  refine SSteps.cons (fun a w' vs σ hS hl hs hk => ?_) ?_
  ·have f276 : a.tmps[276]?.getD undef = .int .i64 ca := sf hk 7
   exact rp (.bool (decide (0 < ca))) (by simp [execOp, Act.eval, f276, go_sem]) hl hs hS
  refine SSteps.cons (fun a w' vs σ hS hl hs hk => ?_) ?_
  ·have f272 : a.tmps[272]?.getD undef = .slice (some ⟨gx, 0, none⟩) L.length cx := sf hk 3
   have f274 : a.tmps[274]?.getD undef = .int .i64 ↑row := sf hk 5
   exact rp (.pointer (some ⟨gx, row * 2, none⟩)) (by simp [execOp, Act.eval, f272, f274, go_sem, hb0, hb1]) hl hs hS
  refine SSteps.cons (fun a w' vs σ hS hl hs hk => ?_) ?_
  ·have f278 : a.tmps[278]?.getD undef = .pointer (some ⟨gx, row * 2, none⟩) := sf hk 9
   exact rp (.pointer (some ⟨gx, row * 2 + 1, none⟩)) (by simp [execOp, Act.eval, f278, go_sem]) hl hs hS
  refine SSteps.cons (fun a w' vs σ hS hl hs hk => ?_) ?_
  ·have f279 : a.tmps[279]?.getD undef = .pointer (some ⟨gx, row * 2 + 1, none⟩) := sf hk 10
   have f277 : a.tmps[277]?.getD undef = .bool (decide (0 < ca)) := sf hk 8
   have h1 : σ[0]? = some (.lines (.slice (some ⟨gx, 0, none⟩) L.length cx) L) := hs 0 (by decide)
   obtain ⟨g', c', e', hz, hc1, hf⟩ := hS.softAt (sg h1) HL.out
   simp only [Value.slice.injEq, Option.some.injEq, Addr.mk.injEq, and_true, true_and] at e'
   obtain ⟨rfl, -⟩ := e'
   exact rstep_store (w2 := w'.setCell ⟨gx, row * 2 + 1, none⟩ (.bool (decide (0 < ca)))) (wanted_none rfl) rfl (by simp [execOp, Act.eval, f279, f277, hf, hz, hc1, go_sem]) (sp_set 0 (.lines (.slice (some ⟨gx, 0, none⟩) L.length cx) (L.set row (l.1, decide (0 < ca)))) (by kernel_rfl) (by simp) (by decide) hl hs (by rfl) (hS.storeSoft (sg h1) HL.out) trivial) trivial
  exact SSteps.nil
 ·intro vs w' hS hv
  have q0 : vs 0 = .pointer (some ⟨x, 0, none⟩) := hv 0 (by decide)
  have q1 : vs 1 = .pointer (some ⟨x, 0, none⟩) := hv 1 (by decide)
  have q2 : vs 2 = .pointer (some ⟨x, 1, none⟩) := hv 2 (by decide)
  have q3 : vs 3 = .slice (some ⟨gx, 0, none⟩) L.length cx := hv 3 (by decide)
  have q4 : vs 4 = .pointer (some ⟨b5, 1, none⟩) := hv 4 (by decide)
  have q5 : vs 5 = .int .i64 ↑row := hv 5 (by decide)
  have q6 : vs 6 = .pointer (some ⟨b5, 2, none⟩) := hv 6 (by decide)
  have q7 : vs 7 = .int .i64 ca := hv 7 (by decide)
  have q8 : vs 8 = .bool (decide (0 < ca)) := hv 8 (by decide)
  have q9 : vs 9 = .pointer (some ⟨gx, row * 2, none⟩) := hv 9 (by decide)
  have q10 : vs 10 = .pointer (some ⟨gx, row * 2 + 1, none⟩) := hv 10 (by decide)
  have S2 := Lib.hid hS
  simp only [putL, Act.put, Nat.zero_add, Nat.reduceAdd, List.setIfInBounds_toArray, List.set_cons_succ, List.set_cons_zero, q0, q1, q2, q3, q4, q5, q6, q7, q8, q9, q10]
  clear hS hv q0 q1 q2 q3 q4 q5 q6 q7 q8 q9 q10
  have S99 := Lib.hid (show Objs w0 w' (.box b5 90 (av14 ⟨4, ↑row, ca, cb, n, y, A, c, cs, soft, q⟩) :: .grid p 58 ↑cols L :: .grid x 33 ↑cols (softMod row (decide (0 < ca)) L) :: os) from by rw [softMod_some HL.out]; exact S2.out.closeGrid (k := 2) rfl)
  clear S2 SO
  obtain ⟨hx, hf, hz, hr, hp, hcl, hpc⟩ := (S99.out.box (k := 0) rfl).act14
  obtain ⟨Ax, cx, hBx, -, -⟩ := S99.out.gridRd (k := 2) rfl
  obtain ⟨hxx, hfx, hzx⟩ := hBx.facts
  clear hBx
  go_wp2_with fail
  have hcon := SetSoftG (decide (0 < ca)) S99.out (k := 1) rfl hc h0 hlm3
  refine hcon.mono ?_
  rintro e w3 ⟨rfl, hS⟩
  have S100 := Lib.hid hS
  clear hS hcon S99
  clear hx hf hz hr hp hcl hpc hxx hfx hzx
  obtain ⟨hx, hf, hz, hr, hp, hcl, hpc⟩ := (S100.out.box (k := 0) rfl).act14
  obtain ⟨Ax, cx, hBx, -, -⟩ := S100.out.gridRd (k := 2) rfl
  obtain ⟨hxx, hfx, hzx⟩ := hBx.facts
  clear hBx
  go_wp2_with fail
  go_ret
  exact ⟨rfl, by rw [HN.out]; exact S100.out.tail⟩
set_option maxRecDepth 100000 in
set_option maxHeartbeats 8000000 in
theorem does_copy_any (row : Int) (h0 : row < 0 ∨ (0 ≤ row ∧ (L.length : Int) ≤ row) ∨ (0 ≤ row ∧ row < (L.length : Int))) (ca cb n what : Int) (hw0 : ¬ what = 0) (hw1 : ¬ what = 1) (hw2 : ¬ what = 2) (hw3 : ¬ what = 3) (hw4 : ¬ what = 4) (hw5 : ¬ what = 5) (y : Cell) (A : Option Addr) (c : Nat) (cs : List Cell) (soft : Bool) (q : Pen) (hT : Tabs w0) (hS : Objs w0 w (.grid p 58 cols L :: .grid x 33 cols L :: os)) (hc : 0 < cols) (hcm : cols ≤ 1000) (hR : Rect cols L) (hL : 0 < L.length) (hLm : L.length ≤ 1000) (hA : RdC w0 A c cs) (hlc : cs.length ≤ 100000) (ia : -9223372036854775808 ≤ ca ∧ ca ≤ 9223372036854775807) (ib : -9223372036854775808 ≤ cb ∧ cb ≤ 9223372036854775807) (i_n : -9223372036854775808 ≤ n ∧ n ≤ 9223372036854775807) :
  Calls Tryd.prog 43 #[.pointer (some ⟨p, 0, none⟩), .pointer (some ⟨x, 0, none⟩), .agg (av14 ⟨what, row, ca, cb, n, y, A, c, cs, soft, q⟩)] w fun e w' => e = .returned (.bool true) ∧ Objs w0 w' (.grid p 58 cols (act14N ⟨what, row, ca, cb, n, y, A, c, cs, soft, q⟩ cols L) :: .grid x 33 cols (act14N ⟨what, row, ca, cb, n, y, A, c, cs, soft, q⟩ cols L) :: os) := by
 have HT := Lib.hid hT
 have S0 := Lib.hid hS
 have HR := Lib.hid hR
 have HA := Lib.hid hA
 have HM := Lib.hid (hR.mill hcm)
 have hlm2 : L.length ≤ 100000 := by omega
 have hlm3 : L.length ≤ 1000000 := by omega
 have HIA := Lib.hid ia
 have HIB := Lib.hid ib
 have HIN := Lib.hid i_n
 clear hT hS hR hA ia ib i_n
 rcases h0 with h0 | ⟨h0, h1⟩ | ⟨h0, h1⟩
 all_goals
  have HN := Lib.hid (show act14N ⟨what, row, ca, cb, n, y, A, c, cs, soft, q⟩ cols L = L by simp [act14N, hw0, hw1, hw2, hw3, hw4, hw5])
  go_enter Tryd.func43, Tryd.ntmps43
  go_upto_region 1 with (fail)
  refine at_objsC S0.out.alloc1 (fun W hW => ?_)
  generalize w.heap.size = b5 at hW ⊢
  have S1 := Lib.hid hW
  clear hW S0
  obtain ⟨hx, hf, hz, hr, hp, hcl, hpc⟩ := (S1.out.box (k := 0) rfl).act14
  obtain ⟨Ax, cx, hBx, -, -⟩ := S1.out.gridRd (k := 2) rfl
  obtain ⟨hxx, hfx, hzx⟩ := hBx.facts
  clear hBx
  first | (have d1 : decide ((0 : Int) ≤ row) = false := decide_eq_false (by omega)) | (have d1 : decide ((0 : Int) ≤ row) = true := decide_eq_true (by omega))
  first | (have d2 : decide (row < (L.length : Int)) = false := decide_eq_false (by omega)) | (have d2 : decide (row < (L.length : Int)) = true := decide_eq_true (by omega))
  refine wp_region_below (by kernel_rfl) (by kernel_rfl) ?_
  repeat (go_big_quiet_step (fail))
  refine wpQuiet_nil ?_
  intro w2 hb2
  have S2 := Lib.hid (S1.out.bel hb2)
  clear hb2 S1
  clear hx hf hz hr hp hcl hpc hxx hfx hzx
  obtain ⟨hx, hf, hz, hr, hp, hcl, hpc⟩ := (S2.out.box (k := 0) rfl).act14
  obtain ⟨Ax, cx, hBx, -, -⟩ := S2.out.gridRd (k := 2) rfl
  obtain ⟨hxx, hfx, hzx⟩ := hBx.facts
  clear hBx
  have hb0 : (what == 0) = false := beq_no hw0
  have hb1 : (what == 1) = false := beq_no hw1
  have hb2 : (what == 2) = false := beq_no hw2
  have hb3 : (what == 3) = false := beq_no hw3
  have hb4 : (what == 4) = false := beq_no hw4
  have hb5 : (what == 5) = false := beq_no hw5
  go_wp2_with fail
  go_ret
  exact ⟨rfl, by rw [HN.out]; exact S2.out.tail⟩
end
end Go.Proofs.YtppijfjigcoifaaDoor

namespace Go.Proofs.YtppijfjigcoifaaDoor
open Go.RowKit

theorem own_rdc {w : World} {A : Option Addr} {n c : Nat} {cs : List Cell} (h : OwnC w 0 (.slice A n c) cs) : n = cs.length ∧ RdC w A c cs := by
 obtain ⟨A', c', e, hr⟩ := h.form
 simp only [Value.slice.injEq] at e
 obtain ⟨rfl, h2, rfl⟩ := e
 exact ⟨h2, hr⟩
section
variable {w0 w : World} {os : List Ob} {p x cols : Nat} {L : List Ln}
set_option maxRecDepth 100000 in
set_option maxHeartbeats 8000000 in
theorem does_setl_out (row : Int) (h0 : row < 0 ∨ (0 ≤ row ∧ (L.length : Int) ≤ row)) (ca cb n : Int) (y : Cell) (A : Option Addr) (c : Nat) (cs : List Cell) (soft : Bool) (q : Pen) (hT : Tabs w0) (hS : Objs w0 w (.grid p 58 cols L :: .grid x 33 cols L :: os)) (hc : 0 < cols) (hcm : cols ≤ 1000) (hR : Rect cols L) (hL : 0 < L.length) (hLm : L.length ≤ 1000) (hA : RdC w0 A c cs) (hlc : cs.length ≤ 100000) (ia : -9223372036854775808 ≤ ca ∧ ca ≤ 9223372036854775807) (ib : -9223372036854775808 ≤ cb ∧ cb ≤ 9223372036854775807) (i_n : -9223372036854775808 ≤ n ∧ n ≤ 9223372036854775807) :
  Calls Tryd.prog 43 #[.pointer (some ⟨p, 0, none⟩), .pointer (some ⟨x, 0, none⟩), .agg (av14 ⟨3, row, ca, cb, n, y, A, c, cs, soft, q⟩)] w fun e w' => e = .returned (.bool true) ∧ Objs w0 w' (.grid p 58 cols (act14N ⟨3, row, ca, cb, n, y, A, c, cs, soft, q⟩ cols L) :: .grid x 33 cols (act14N ⟨3, row, ca, cb, n, y, A, c, cs, soft, q⟩ cols L) :: os) := by
 have HT := Lib.hid hT
 have S0 := Lib.hid hS
 have HR := Lib.hid hR
 have HA := Lib.hid hA
 have HM := Lib.hid (hR.mill hcm)
 have hlm2 : L.length ≤ 100000 := by omega
 have hlm3 : L.length ≤ 1000000 := by omega
 have HIA := Lib.hid ia
 have HIB := Lib.hid ib
 have HIN := Lib.hid i_n
 clear hT hS hR hA ia ib i_n
 rcases h0 with h0 | ⟨h0, h1⟩
 all_goals
  have HE := Lib.hid (show setE row cs L.length = 3 by have hh : here14 row L.length = false := decide_eq_false (by omega); unfold setE; rw [if_pos (by rw [hh]; decide)])
  have HN := Lib.hid (show act14N ⟨3, row, ca, cb, n, y, A, c, cs, soft, q⟩ cols L = L by simp [act14N, HE.out])
  go_enter Tryd.func43, Tryd.ntmps43
  go_upto_region 1 with (fail)
  refine at_objsC S0.out.alloc1 (fun W hW => ?_)
  generalize w.heap.size = b5 at hW ⊢
  have S1 := Lib.hid hW
  clear hW S0
  obtain ⟨hx, hf, hz, hr, hp, hcl, hpc⟩ := (S1.out.box (k := 0) rfl).act14
  obtain ⟨Ax, cx, hBx, -, -⟩ := S1.out.gridRd (k := 2) rfl
  obtain ⟨hxx, hfx, hzx⟩ := hBx.facts
  clear hBx
  first | (have d1 : decide ((0 : Int) ≤ row) = false := decide_eq_false (by omega)) | (have d1 : decide ((0 : Int) ≤ row) = true := decide_eq_true (by omega))
  first | (have d2 : decide (row < (L.length : Int)) = false := decide_eq_false (by omega)) | (have d2 : decide (row < (L.length : Int)) = true := decide_eq_true (by omega))
  refine wp_region_below (by kernel_rfl) (by kernel_rfl) ?_
  repeat (go_big_quiet_step (fail))
  refine wpQuiet_nil ?_
  intro w2 hb2
  have S2 := Lib.hid (S1.out.bel hb2)
  clear hb2 S1
  clear hx hf hz hr hp hcl hpc hxx hfx hzx
  obtain ⟨hx, hf, hz, hr, hp, hcl, hpc⟩ := (S2.out.box (k := 0) rfl).act14
  obtain ⟨Ax, cx, hBx, -, -⟩ := S2.out.gridRd (k := 2) rfl
  obtain ⟨hxx, hfx, hzx⟩ := hBx.facts
  clear hBx
  go_wp2_with fail
  clear hx hf hz hr hp hcl hpc hxx hfx hzx
  refine wp_region_stage (w0 := w0) (os := (.grid p 58 ↑cols L :: .grid x 33 ↑cols L :: os)) (by kernel_rfl) (by kernel_rfl) (by kernel_rfl) [(0, 3, [3], fun vs => .cells (vs 3) cs), (0, 7, [7], fun vs => .cells (lineV (vs 7)) cs), (1, 8, [8], fun vs => .box (blkOf (vs 8)) 39 #[.slice none 0 0, .bool false]), (1, 9, [8, 7], fun vs => .box (blkOf (vs 8)) 39 #[lineV (vs 7), .bool soft])] [[], [], [2], [0], [], [], [2], [0], [1], [1]] [.none, .none, .box b5 90 (av14 ⟨3, row, ca, cb, n, y, A, c, cs, soft, q⟩)] (fun opn u => match opn with | 0 => u = .pointer (some ⟨b5, 21, none⟩) | 1 => u = .pointer (some ⟨b5, 21, none⟩) | 2 => u = .slice A cs.length c | 3 => ∃ A n c, u = .slice A n c | 4 => u = .pointer (some ⟨b5, 21, none⟩) | 5 => u = .pointer (some ⟨b5, 22, none⟩) | 6 => u = .bool soft | 7 => ∃ A m c, u = .agg #[.slice A m c, .bool soft] | 8 => ∃ g, u = .pointer (some ⟨g, 0, none⟩) | 9 => True | _ => True) (fun vs => [.cells (lineV (vs 7)) cs, .box (blkOf (vs 8)) 39 #[lineV (vs 7), .bool soft], .box b5 90 (av14 ⟨3, row, ca, cb, n, y, A, c, cs, soft, q⟩)]) (by kernel_rfl) (fun vs => by rfl) S2.out.pad.pad ?_ ?_
  ·refine SSteps.cons (fun a w' vs σ hS hl hs hk => ?_) ?_
   ·have f5 : a.tmps[5]?.getD undef = .pointer (some ⟨b5, 0, none⟩) := sof hk
    exact rp (.pointer (some ⟨b5, 21, none⟩)) (by simp [execOp, Act.eval, f5, go_sem]) hl hs hS
   refine SSteps.cons (fun a w' vs σ hS hl hs hk => ?_) ?_
   ·have f200 : a.tmps[200]?.getD undef = .pointer (some ⟨b5, 21, none⟩) := sf hk 0
    exact rp (.pointer (some ⟨b5, 21, none⟩)) (by simp [execOp, Act.eval, f200, go_sem]) hl hs hS
   refine SSteps.cons (fun a w' vs σ hS hl hs hk => ?_) ?_
   ·have f201 : a.tmps[201]?.getD undef = .pointer (some ⟨b5, 21, none⟩) := sf hk 1
    have hx := (hS.box (sg (hs 2 (by decide)))).cell
    exact rp (.slice A cs.length c) (by simp [execOp, Act.eval, f201, go_sem, hx]) hl hs hS
   refine SSteps.cons (fun a w' vs σ hS hl hs hk => ?_) ?_
   ·have e202 : a.tmps.getD 202 undef = .slice A cs.length c := sv hk 2
    have f202 := gd e202
    have h0 : σ[0]? = some .none := hs 0 (by decide)
    obtain ⟨v6, w6, hr, hS2, A6, c6, hv6⟩ := run_appO hS.nilCells (k := 0) rfl (hS.rd HA.out) (by simp; omega) 37
    exact rs_run (wanted_none rfl) (exec_app rfl rfl (by simp only [Act.eval]; exact e202) hr) (sp_set 0 (.cells v6 cs) (by kernel_rfl) (by simp) (by decide) hl hs (by rfl) (Objs.place (by simpa using hS2) (sg h0)) ⟨A6, _, c6, hv6⟩)
   refine SSteps.cons (fun a w' vs σ hS hl hs hk => ?_) ?_
   ·have f5 : a.tmps[5]?.getD undef = .pointer (some ⟨b5, 0, none⟩) := sof hk
    exact rp (.pointer (some ⟨b5, 21, none⟩)) (by simp [execOp, Act.eval, f5, go_sem]) hl hs hS
   refine SSteps.cons (fun a w' vs σ hS hl hs hk => ?_) ?_
   ·have f204 : a.tmps[204]?.getD undef = .pointer (some ⟨b5, 21, none⟩) := sf hk 4
    exact rp (.pointer (some ⟨b5, 22, none⟩)) (by simp [execOp, Act.eval, f204, go_sem]) hl hs hS
   refine SSteps.cons (fun a w' vs σ hS hl hs hk => ?_) ?_
   ·have f205 : a.tmps[205]?.getD undef = .pointer (some ⟨b5, 22, none⟩) := sf hk 5
    have hx := (hS.box (sg (hs 2 (by decide)))).cell
    exact rp (.bool soft) (by simp [execOp, Act.eval, f205, go_sem, hx]) hl hs hS
   refine SSteps.cons (fun a w' vs σ hS hl hs hk => ?_) ?_
   ·have e203 : a.tmps.getD 203 undef = vs 3 := sk_val hk 3 (by kernel_rfl) rfl rfl
    have p203 : (fun u : Value => ∃ A n c, u = .slice A n c) (vs 3) := (hk.1 3 (by kernel_rfl)).1
    have f203 := gd e203
    have f206 : a.tmps[206]?.getD undef = .bool soft := sf hk 6
    obtain ⟨A6, n6, c6, q6⟩ := p203
    have e9 := e203.trans q6
    have f9 := gd e9
    have h0 : σ[0]? = some (.cells (vs 3) cs) := hs 0 (by decide)
    rw [q6] at h0
    have hSS := hS
    rw [← set_self (sg (os := (.grid p 58 ↑cols L :: .grid x 33 ↑cols L :: os)) h0)] at hSS
    exact rs_run (v' := .agg #[.slice A6 n6 c6, .bool soft]) (w' := w') (wanted_none rfl) (by simp [execOp, Act.eval, e9, f9, f206, go_sem]) (sp_set 0 (.cells (.slice A6 n6 c6) cs) (by kernel_rfl) (by simp) (by decide) hl hs (by rfl) hSS ⟨A6, n6, c6, rfl⟩)
   refine SSteps.cons (fun a w' vs σ hS hl hs hk => ?_) ?_
   ·have h1 : σ[1]? = some .none := hs 1 (by decide)
    exact rs_run (v' := .pointer (some ⟨w'.heap.size, 0, none⟩)) (w' := w'.alloc (.cells #[.slice none 0 0, .bool false] 39)) (wanted_none rfl) (by simp [execOp, go_sem]) (sp_set 1 (.box w'.heap.size 39 #[.slice none 0 0, .bool false]) (by kernel_rfl) (by simp) (by decide) hl hs (by rfl) (hS.alloc1.place (sg h1)) ⟨_, rfl⟩)
   refine SSteps.cons (fun a w' vs σ hS hl hs hk => ?_) ?_
   ·have e9 : a.tmps.getD 9 undef = vs 8 := sk_val hk 8 (by kernel_rfl) rfl rfl
    have p9 : (fun u : Value => ∃ g, u = .pointer (some ⟨g, 0, none⟩)) (vs 8) := (hk.1 8 (by kernel_rfl)).1
    have f9 := gd e9
    have e207 : a.tmps.getD 207 undef = vs 7 := sk_val hk 7 (by kernel_rfl) rfl rfl
    have p207 : (fun u : Value => ∃ A m c, u = .agg #[.slice A m c, .bool soft]) (vs 7) := (hk.1 7 (by kernel_rfl)).1
    have f207 := gd e207
    obtain ⟨g9, q9⟩ := p9
    obtain ⟨A7, n7, c7, q7⟩ := p207
    have h1 : σ[1]? = some (.box (blkOf (vs 8)) 39 #[.slice none 0 0, .bool false]) := hs 1 (by decide)
    rw [q9, show blkOf (.pointer (some ⟨g9, 0, none⟩)) = g9 from rfl] at h1
    obtain ⟨hx, hf, hz⟩ := (hS.box (sg h1)).facts
    exact rstep_store (w2 := (w'.setCell ⟨g9, 0, none⟩ (.slice A7 n7 c7)).setCell ⟨g9, 1, none⟩ (.bool soft)) (wanted_none rfl) rfl (by simp [execOp, Act.eval, e9, f9, e207, f207, q9, q7, hx, hf, hz, go_sem]) (sp_set 1 (.box g9 39 #[.slice A7 n7 c7, .bool soft]) (by kernel_rfl) (by simp) (by decide) hl hs (by show Ob.box (blkOf (vs 8)) 39 #[lineV (vs 7), .bool soft] = _; rw [q9, q7]; rfl) (hS.setLine 1 _ soft (sg h1)) trivial) trivial
   exact SSteps.nil
  ·intro vs w' hS hv
   have q0 : vs 0 = .pointer (some ⟨b5, 21, none⟩) := hv 0 (by decide)
   have q1 : vs 1 = .pointer (some ⟨b5, 21, none⟩) := hv 1 (by decide)
   have q2 : vs 2 = .slice A cs.length c := hv 2 (by decide)
   have q4 : vs 4 = .pointer (some ⟨b5, 21, none⟩) := hv 4 (by decide)
   have q5 : vs 5 = .pointer (some ⟨b5, 22, none⟩) := hv 5 (by decide)
   have q6 : vs 6 = .bool soft := hv 6 (by decide)
   obtain ⟨g9, q8⟩ := (show ∃ g, vs 8 = .pointer (some ⟨g, 0, none⟩) from hv 8 (by decide))
   obtain ⟨A7, n7, c7, q7⟩ := (show ∃ A m c, vs 7 = .agg #[.slice A m c, .bool soft] from hv 7 (by decide))
   obtain ⟨A3, n3, c3, q3⟩ := (show ∃ A n c, vs 3 = .slice A n c from hv 3 (by decide))
   rw [q8, q7, show lineV (.agg #[.slice A7 n7 c7, .bool soft]) = .slice A7 n7 c7 from rfl, show blkOf (.pointer (some ⟨g9, 0, none⟩)) = g9 from rfl] at hS
   obtain ⟨Ao, co, e, -⟩ := hS.cellsRd (k := 0) rfl
   rw [e] at hS q7
   clear e
   have S2 := Lib.hid hS
   simp only [putL, Act.put, Nat.zero_add, Nat.reduceAdd, List.setIfInBounds_toArray, List.set_cons_succ, List.set_cons_zero, q0, q1, q2, q4, q5, q6]
   clear hS hv q0 q1 q2 q4 q5 q6
   simp only [q8, q7, q3]
   have S50 := Lib.hid (show Objs w0 _ (.grid p 58 ↑cols L :: .cells (.slice Ao cs.length co) cs :: .box g9 39 #[.slice Ao cs.length co, .bool soft] :: .box b5 90 (av14 ⟨3, row, ca, cb, n, y, A, c, cs, soft, q⟩) :: .grid x 33 ↑cols L :: os) from (Objs.pick (σ := [_, _, _, _, _]) (os := os) S2.out [some 3, some 0, some 1, some 2, some 4] (by decide) rfl))
   clear S2 q8 q7 q3
   clear S2
   obtain ⟨hx, hf, hz, hr, hp, hcl, hpc⟩ := (S50.out.box (k := 3) rfl).act14
   obtain ⟨Ax, cx, hBx, -, -⟩ := S50.out.gridRd (k := 4) rfl
   obtain ⟨hxx, hfx, hzx⟩ := hBx.facts
   clear hBx
   obtain ⟨hx9, hf9, hz9⟩ := (S50.out.box (k := 2) rfl).facts
   go_wp2_with fail
   clear hx9 hf9 hz9
   clear hx hf hz hr hp hcl hpc hxx hfx hzx
   have hcon := no_call (r := .int .i64 3) rfl S50.out (k := 0) rfl (fun os1 h => SetLine_out (row := row) (v := .slice Ao cs.length co) (s := soft) h hc (by omega))
   refine hcon.mono ?_
   rintro e w3 ⟨rfl, hS⟩
   have S51 := Lib.hid hS
   clear hS hcon S50
   obtain ⟨hx, hf, hz, hr, hp, hcl, hpc⟩ := (S51.out.box (k := 3) rfl).act14
   obtain ⟨Ax, cx, hBx, -, -⟩ := S51.out.gridRd (k := 4) rfl
   obtain ⟨hxx, hfx, hzx⟩ := hBx.facts
   clear hBx
   obtain ⟨hx9, hf9, hz9⟩ := (S51.out.box (k := 2) rfl).facts
   go_wp2_with fail
   clear hx9 hf9 hz9
   clear hx hf hz hr hp hcl hpc hxx hfx hzx
   go_loopw [13] (fun vi wr => ∃ (k : Nat) (mc : List Cell), k ≤ cs.length ∧ vi = .int .i64 k ∧ Hid (mc.length = cs.length) ∧ Objs w0 wr (.grid p 58 ↑cols L :: .cells (.slice Ao cs.length co) mc :: .box g9 39 #[.slice Ao cs.length co, .bool soft] :: .box b5 90 (av14 ⟨3, row, ca, cb, n, y, A, c, cs, soft, q⟩) :: .grid x 33 ↑cols L :: os)) (fun vi _ => cs.length - (intOf vi).toNat)
   case atStart => exact ⟨0, cs, Nat.zero_le _, rfl, Lib.hid rfl, S51.out⟩
   case round =>
   clear S51
   obtain ⟨k, mc, hk, rfl, HMC, hS⟩ := hrel
   obtain ⟨hx9, hf9, hz9⟩ := (hS.box (k := 2) rfl).facts
   by_cases hlt : k < cs.length
   case neg =>
    have S70 := Lib.hid hS
    clear hS
    go_wp2_with fail
    go_ret
    exact ⟨rfl, by rw [HN.out]; exact (Objs.pick (σ := [_, _, _, _, _]) (os := os) S70.out [some 0, some 4] (by decide) rfl)⟩
   obtain ⟨xm, hxm⟩ := get_of (show k < mc.length by rw [HMC.out]; exact hlt)
   obtain ⟨gm, cm, e, hzm, hcw, hfm⟩ := hS.ownAt (k := 1) (j := k) rfl hxm
   simp only [Value.slice.injEq] at e
   obtain ⟨rfl, -, rfl⟩ := e
   have hS2 := hS.setWidth (k := 1) rfl hxm 9
   rw [cellW_at hxm] at hS2
   have S71 := Lib.hid hS2
   have hb0 : (0 : Int) ≤ (k : Int) := by omega
   have hb1 : (k : Int) < (cs.length : Int) := by omega
   clear hS hS2
   go_wp2_with fail
   go_roundw
   case rel => exact ⟨k + 1, set9 k mc, by omega, by go_num, Lib.hid (by rw [set9_length]; exact HMC.out), S71.out⟩
   case measure => simp [intOf]; omega
set_option maxRecDepth 100000 in
set_option maxHeartbeats 8000000 in
theorem does_setl_bad (row : Nat) (h0 : row < L.length) (ca cb n : Int) (y : Cell) (A : Option Addr) (c : Nat) (cs : List Cell) (soft : Bool) (q : Pen) (hT : Tabs w0) (hS : Objs w0 w (.grid p 58 cols L :: .grid x 33 cols L :: os)) (hc : 0 < cols) (hcm : cols ≤ 1000) (hR : Rect cols L) (hL : 0 < L.length) (hLm : L.length ≤ 1000) (hA : RdC w0 A c cs) (hlc : cs.length ≤ 100000) (ia : -9223372036854775808 ≤ ca ∧ ca ≤ 9223372036854775807) (ib : -9223372036854775808 ≤ cb ∧ cb ≤ 9223372036854775807) (i_n : -9223372036854775808 ≤ n ∧ n ≤ 9223372036854775807) (hv : lineOk cs = false) :
  Calls Tryd.prog 43 #[.pointer (some ⟨p, 0, none⟩), .pointer (some ⟨x, 0, none⟩), .agg (av14 ⟨3, ↑row, ca, cb, n, y, A, c, cs, soft, q⟩)] w fun e w' => e = .returned (.bool true) ∧ Objs w0 w' (.grid p 58 cols (act14N ⟨3, ↑row, ca, cb, n, y, A, c, cs, soft, q⟩ cols L) :: .grid x 33 cols (act14N ⟨3, ↑row, ca, cb, n, y, A, c, cs, soft, q⟩ cols L) :: os) := by
 have HT := Lib.hid hT
 have S0 := Lib.hid hS
 have HR := Lib.hid hR
 have HA := Lib.hid hA
 have HM := Lib.hid (hR.mill hcm)
 have hlm2 : L.length ≤ 100000 := by omega
 have hlm3 : L.length ≤ 1000000 := by omega
 have HIA := Lib.hid ia
 have HIB := Lib.hid ib
 have HIN := Lib.hid i_n
 clear hT hS hR hA ia ib i_n
 have HE := Lib.hid (show setE ↑row cs L.length = 2 by have hh : here14 (row : Int) L.length = true := decide_eq_true (by omega); unfold setE; rw [if_neg (fun h => h hh), if_pos (by rw [hv]; decide)])
 have HN := Lib.hid (show act14N ⟨3, ↑row, ca, cb, n, y, A, c, cs, soft, q⟩ cols L = L by simp [act14N, HE.out])
 have HV := Lib.hid hv
 clear hv
 go_enter Tryd.func43, Tryd.ntmps43
 go_upto_region 1 with (fail)
 refine at_objsC S0.out.alloc1 (fun W hW => ?_)
 generalize w.heap.size = b5 at hW ⊢
 have S1 := Lib.hid hW
 clear hW S0
 obtain ⟨hx, hf, hz, hr, hp, hcl, hpc⟩ := (S1.out.box (k := 0) rfl).act14
 obtain ⟨Ax, cx, hBx, -, -⟩ := S1.out.gridRd (k := 2) rfl
 obtain ⟨hxx, hfx, hzx⟩ := hBx.facts
 clear hBx
 have d1 : decide ((0 : Int) ≤ (row : Int)) = true := decide_eq_true (by omega)
 have d2 : decide ((row : Int) < (L.length : Int)) = true := decide_eq_true (by omega)
 refine wp_region_below (by kernel_rfl) (by kernel_rfl) ?_
 repeat (go_big_quiet_step (fail))
 refine wpQuiet_nil ?_
 intro w2 hb2
 have S2 := Lib.hid (S1.out.bel hb2)
 clear hb2 S1
 clear hx hf hz hr hp hcl hpc hxx hfx hzx
 obtain ⟨hx, hf, hz, hr, hp, hcl, hpc⟩ := (S2.out.box (k := 0) rfl).act14
 obtain ⟨Ax, cx, hBx, -, -⟩ := S2.out.gridRd (k := 2) rfl
 obtain ⟨hxx, hfx, hzx⟩ := hBx.facts
 clear hBx
 go_wp2_with fail
 clear hx hf hz hr hp hcl hpc hxx hfx hzx
 refine wp_region_stage (w0 := w0) (os := (.grid p 58 ↑cols L :: .grid x 33 ↑cols L :: os)) (by kernel_rfl) (by kernel_rfl) (by kernel_rfl) [(0, 3, [3], fun vs => .cells (vs 3) cs), (0, 7, [7], fun vs => .cells (lineV (vs 7)) cs), (1, 8, [8], fun vs => .box (blkOf (vs 8)) 39 #[.slice none 0 0, .bool false]), (1, 9, [8, 7], fun vs => .box (blkOf (vs 8)) 39 #[lineV (vs 7), .bool soft])] [[], [], [2], [0], [], [], [2], [0], [1], [1]] [.none, .none, .box b5 90 (av14 ⟨3, ↑row, ca, cb, n, y, A, c, cs, soft, q⟩)] (fun opn u => match opn with | 0 => u = .pointer (some ⟨b5, 21, none⟩) | 1 => u = .pointer (some ⟨b5, 21, none⟩) | 2 => u = .slice A cs.length c | 3 => ∃ A n c, u = .slice A n c | 4 => u = .pointer (some ⟨b5, 21, none⟩) | 5 => u = .pointer (some ⟨b5, 22, none⟩) | 6 => u = .bool soft | 7 => ∃ A m c, u = .agg #[.slice A m c, .bool soft] | 8 => ∃ g, u = .pointer (some ⟨g, 0, none⟩) | 9 => True | _ => True) (fun vs => [.cells (lineV (vs 7)) cs, .box (blkOf (vs 8)) 39 #[lineV (vs 7), .bool soft], .box b5 90 (av14 ⟨3, ↑row, ca, cb, n, y, A, c, cs, soft, q⟩)]) (by kernel_rfl) (fun vs => by rfl) S2.out.pad.pad ?_ ?_
 ·refine SSteps.cons (fun a w' vs σ hS hl hs hk => ?_) ?_
  ·have f5 : a.tmps[5]?.getD undef = .pointer (some ⟨b5, 0, none⟩) := sof hk
   exact rp (.pointer (some ⟨b5, 21, none⟩)) (by simp [execOp, Act.eval, f5, go_sem]) hl hs hS
  refine SSteps.cons (fun a w' vs σ hS hl hs hk => ?_) ?_
  ·have f200 : a.tmps[200]?.getD undef = .pointer (some ⟨b5, 21, none⟩) := sf hk 0
   exact rp (.pointer (some ⟨b5, 21, none⟩)) (by simp [execOp, Act.eval, f200, go_sem]) hl hs hS
  refine SSteps.cons (fun a w' vs σ hS hl hs hk => ?_) ?_
  ·have f201 : a.tmps[201]?.getD undef = .pointer (some ⟨b5, 21, none⟩) := sf hk 1
   have hx := (hS.box (sg (hs 2 (by decide)))).cell
   exact rp (.slice A cs.length c) (by simp [execOp, Act.eval, f201, go_sem, hx]) hl hs hS
  refine SSteps.cons (fun a w' vs σ hS hl hs hk => ?_) ?_
  ·have e202 : a.tmps.getD 202 undef = .slice A cs.length c := sv hk 2
   have f202 := gd e202
   have h0 : σ[0]? = some .none := hs 0 (by decide)
   obtain ⟨v6, w6, hr, hS2, A6, c6, hv6⟩ := run_appO hS.nilCells (k := 0) rfl (hS.rd HA.out) (by simp; omega) 37
   exact rs_run (wanted_none rfl) (exec_app rfl rfl (by simp only [Act.eval]; exact e202) hr) (sp_set 0 (.cells v6 cs) (by kernel_rfl) (by simp) (by decide) hl hs (by rfl) (Objs.place (by simpa using hS2) (sg h0)) ⟨A6, _, c6, hv6⟩)
  refine SSteps.cons (fun a w' vs σ hS hl hs hk => ?_) ?_
  ·have f5 : a.tmps[5]?.getD undef = .pointer (some ⟨b5, 0, none⟩) := sof hk
   exact rp (.pointer (some ⟨b5, 21, none⟩)) (by simp [execOp, Act.eval, f5, go_sem]) hl hs hS
  refine SSteps.cons (fun a w' vs σ hS hl hs hk => ?_) ?_
  ·have f204 : a.tmps[204]?.getD undef = .pointer (some ⟨b5, 21, none⟩) := sf hk 4
   exact rp (.pointer (some ⟨b5, 22, none⟩)) (by simp [execOp, Act.eval, f204, go_sem]) hl hs hS
  refine SSteps.cons (fun a w' vs σ hS hl hs hk => ?_) ?_
  ·have f205 : a.tmps[205]?.getD undef = .pointer (some ⟨b5, 22, none⟩) := sf hk 5
   have hx := (hS.box (sg (hs 2 (by decide)))).cell
   exact rp (.bool soft) (by simp [execOp, Act.eval, f205, go_sem, hx]) hl hs hS
  refine SSteps.cons (fun a w' vs σ hS hl hs hk => ?_) ?_
  ·have e203 : a.tmps.getD 203 undef = vs 3 := sk_val hk 3 (by kernel_rfl) rfl rfl
   have p203 : (fun u : Value => ∃ A n c, u = .slice A n c) (vs 3) := (hk.1 3 (by kernel_rfl)).1
   have f203 := gd e203
   have f206 : a.tmps[206]?.getD undef = .bool soft := sf hk 6
   obtain ⟨A6, n6, c6, q6⟩ := p203
   have e9 := e203.trans q6
   have f9 := gd e9
   have h0 : σ[0]? = some (.cells (vs 3) cs) := hs 0 (by decide)
   rw [q6] at h0
   have hSS := hS
   rw [← set_self (sg (os := (.grid p 58 ↑cols L :: .grid x 33 ↑cols L :: os)) h0)] at hSS
   exact rs_run (v' := .agg #[.slice A6 n6 c6, .bool soft]) (w' := w') (wanted_none rfl) (by simp [execOp, Act.eval, e9, f9, f206, go_sem]) (sp_set 0 (.cells (.slice A6 n6 c6) cs) (by kernel_rfl) (by simp) (by decide) hl hs (by rfl) hSS ⟨A6, n6, c6, rfl⟩)
  refine SSteps.cons (fun a w' vs σ hS hl hs hk => ?_) ?_
  ·have h1 : σ[1]? = some .none := hs 1 (by decide)
   exact rs_run (v' := .pointer (some ⟨w'.heap.size, 0, none⟩)) (w' := w'.alloc (.cells #[.slice none 0 0, .bool false] 39)) (wanted_none rfl) (by simp [execOp, go_sem]) (sp_set 1 (.box w'.heap.size 39 #[.slice none 0 0, .bool false]) (by kernel_rfl) (by simp) (by decide) hl hs (by rfl) (hS.alloc1.place (sg h1)) ⟨_, rfl⟩)
  refine SSteps.cons (fun a w' vs σ hS hl hs hk => ?_) ?_
  ·have e9 : a.tmps.getD 9 undef = vs 8 := sk_val hk 8 (by kernel_rfl) rfl rfl
   have p9 : (fun u : Value => ∃ g, u = .pointer (some ⟨g, 0, none⟩)) (vs 8) := (hk.1 8 (by kernel_rfl)).1
   have f9 := gd e9
   have e207 : a.tmps.getD 207 undef = vs 7 := sk_val hk 7 (by kernel_rfl) rfl rfl
   have p207 : (fun u : Value => ∃ A m c, u = .agg #[.slice A m c, .bool soft]) (vs 7) := (hk.1 7 (by kernel_rfl)).1
   have f207 := gd e207
   obtain ⟨g9, q9⟩ := p9
   obtain ⟨A7, n7, c7, q7⟩ := p207
   have h1 : σ[1]? = some (.box (blkOf (vs 8)) 39 #[.slice none 0 0, .bool false]) := hs 1 (by decide)
   rw [q9, show blkOf (.pointer (some ⟨g9, 0, none⟩)) = g9 from rfl] at h1
   obtain ⟨hx, hf, hz⟩ := (hS.box (sg h1)).facts
   exact rstep_store (w2 := (w'.setCell ⟨g9, 0, none⟩ (.slice A7 n7 c7)).setCell ⟨g9, 1, none⟩ (.bool soft)) (wanted_none rfl) rfl (by simp [execOp, Act.eval, e9, f9, e207, f207, q9, q7, hx, hf, hz, go_sem]) (sp_set 1 (.box g9 39 #[.slice A7 n7 c7, .bool soft]) (by kernel_rfl) (by simp) (by decide) hl hs (by show Ob.box (blkOf (vs 8)) 39 #[lineV (vs 7), .bool soft] = _; rw [q9, q7]; rfl) (hS.setLine 1 _ soft (sg h1)) trivial) trivial
  exact SSteps.nil
 ·intro vs w' hS hv
  have q0 : vs 0 = .pointer (some ⟨b5, 21, none⟩) := hv 0 (by decide)
  have q1 : vs 1 = .pointer (some ⟨b5, 21, none⟩) := hv 1 (by decide)
  have q2 : vs 2 = .slice A cs.length c := hv 2 (by decide)
  have q4 : vs 4 = .pointer (some ⟨b5, 21, none⟩) := hv 4 (by decide)
  have q5 : vs 5 = .pointer (some ⟨b5, 22, none⟩) := hv 5 (by decide)
  have q6 : vs 6 = .bool soft := hv 6 (by decide)
  obtain ⟨g9, q8⟩ := (show ∃ g, vs 8 = .pointer (some ⟨g, 0, none⟩) from hv 8 (by decide))
  obtain ⟨A7, n7, c7, q7⟩ := (show ∃ A m c, vs 7 = .agg #[.slice A m c, .bool soft] from hv 7 (by decide))
  obtain ⟨A3, n3, c3, q3⟩ := (show ∃ A n c, vs 3 = .slice A n c from hv 3 (by decide))
  rw [q8, q7, show lineV (.agg #[.slice A7 n7 c7, .bool soft]) = .slice A7 n7 c7 from rfl, show blkOf (.pointer (some ⟨g9, 0, none⟩)) = g9 from rfl] at hS
  obtain ⟨Ao, co, e, -⟩ := hS.cellsRd (k := 0) rfl
  rw [e] at hS q7
  clear e
  have S2 := Lib.hid hS
  simp only [putL, Act.put, Nat.zero_add, Nat.reduceAdd, List.setIfInBounds_toArray, List.set_cons_succ, List.set_cons_zero, q0, q1, q2, q4, q5, q6]
  clear hS hv q0 q1 q2 q4 q5 q6
  simp only [q8, q7, q3]
  have S50 := Lib.hid (show Objs w0 _ (.grid p 58 ↑cols L :: .cells (.slice Ao cs.length co) cs :: .box g9 39 #[.slice Ao cs.length co, .bool soft] :: .box b5 90 (av14 ⟨3, ↑row, ca, cb, n, y, A, c, cs, soft, q⟩) :: .grid x 33 ↑cols L :: os) from (Objs.pick (σ := [_, _, _, _, _]) (os := os) S2.out [some 3, some 0, some 1, some 2, some 4] (by decide) rfl))
  clear S2 q8 q7 q3
  clear S2
  obtain ⟨hx, hf, hz, hr, hp, hcl, hpc⟩ := (S50.out.box (k := 3) rfl).act14
  obtain ⟨Ax, cx, hBx, -, -⟩ := S50.out.gridRd (k := 4) rfl
  obtain ⟨hxx, hfx, hzx⟩ := hBx.facts
  clear hBx
  obtain ⟨hx9, hf9, hz9⟩ := (S50.out.box (k := 2) rfl).facts
  go_wp2_with fail
  clear hx9 hf9 hz9
  clear hx hf hz hr hp hcl hpc hxx hfx hzx
  have hcon := lvalid_is HV.out A c soft _ (S50.out.tabs HT.out) (S50.out.rd HA.out) (by omega)
  refine hcon.mono ?_
  rintro e w3 ⟨rfl, hb⟩
  have S51 := Lib.hid (S50.out.bel hb)
  clear hb hcon S50
  obtain ⟨hx, hf, hz, hr, hp, hcl, hpc⟩ := (S51.out.box (k := 3) rfl).act14
  obtain ⟨Ax, cx, hBx, -, -⟩ := S51.out.gridRd (k := 4) rfl
  obtain ⟨hxx, hfx, hzx⟩ := hBx.facts
  clear hBx
  obtain ⟨hx9, hf9, hz9⟩ := (S51.out.box (k := 2) rfl).facts
  go_wp2_with fail
  clear hx9 hf9 hz9
  clear hx hf hz hr hp hcl hpc hxx hfx hzx
  have hcon := SetLine_bad (i := row) (n := cs.length) (A := Ao) (c := co) (cs := cs) (s := soft) HT.out S51.out hc h0 rfl (fun w' ⟨F, hF⟩ _ => (own_rdc hF.1).2) hlc HV.out
  refine hcon.mono ?_
  rintro e w3 ⟨rfl, hS⟩
  have S52 := Lib.hid hS
  clear hS hcon S51
  obtain ⟨hx, hf, hz, hr, hp, hcl, hpc⟩ := (S52.out.box (k := 3) rfl).act14
  obtain ⟨Ax, cx, hBx, -, -⟩ := S52.out.gridRd (k := 4) rfl
  obtain ⟨hxx, hfx, hzx⟩ := hBx.facts
  clear hBx
  obtain ⟨hx9, hf9, hz9⟩ := (S52.out.box (k := 2) rfl).facts
  go_wp2_with fail
  clear hx9 hf9 hz9
  clear hx hf hz hr hp hcl hpc hxx hfx hzx
  go_loopw [13] (fun vi wr => ∃ (k : Nat) (mc : List Cell), k ≤ cs.length ∧ vi = .int .i64 k ∧ Hid (mc.length = cs.length) ∧ Objs w0 wr (.grid p 58 ↑cols L :: .cells (.slice Ao cs.length co) mc :: .box g9 39 #[.slice Ao cs.length co, .bool soft] :: .box b5 90 (av14 ⟨3, ↑row, ca, cb, n, y, A, c, cs, soft, q⟩) :: .grid x 33 ↑cols L :: os)) (fun vi _ => cs.length - (intOf vi).toNat)
  case atStart => exact ⟨0, cs, Nat.zero_le _, rfl, Lib.hid rfl, S52.out⟩
  case round =>
  clear S52
  obtain ⟨k, mc, hk, rfl, HMC, hS⟩ := hrel
  obtain ⟨hx9, hf9, hz9⟩ := (hS.box (k := 2) rfl).facts
  by_cases hlt : k < cs.length
  case neg =>
   have S70 := Lib.hid hS
   clear hS
   go_wp2_with fail
   go_ret
   exact ⟨rfl, by rw [HN.out]; exact (Objs.pick (σ := [_, _, _, _, _]) (os := os) S70.out [some 0, some 4] (by decide) rfl)⟩
  obtain ⟨xm, hxm⟩ := get_of (show k < mc.length by rw [HMC.out]; exact hlt)
  obtain ⟨gm, cm, e, hzm, hcw, hfm⟩ := hS.ownAt (k := 1) (j := k) rfl hxm
  simp only [Value.slice.injEq] at e
  obtain ⟨rfl, -, rfl⟩ := e
  have hS2 := hS.setWidth (k := 1) rfl hxm 9
  rw [cellW_at hxm] at hS2
  have S71 := Lib.hid hS2
  have hb0 : (0 : Int) ≤ (k : Int) := by omega
  have hb1 : (k : Int) < (cs.length : Int) := by omega
  clear hS hS2
  go_wp2_with fail
  go_roundw
  case rel => exact ⟨k + 1, set9 k mc, by omega, by go_num, Lib.hid (by rw [set9_length]; exact HMC.out), S71.out⟩
  case measure => simp [intOf]; omega
set_option maxRecDepth 100000 in
set_option maxHeartbeats 8000000 in
theorem does_setl_ok (row : Nat) (h0 : row < L.length) (ca cb n : Int) (y : Cell) (A : Option Addr) (c : Nat) (cs : List Cell) (soft : Bool) (q : Pen) (hT : Tabs w0) (hS : Objs w0 w (.grid p 58 cols L :: .grid x 33 cols L :: os)) (hc : 0 < cols) (hcm : cols ≤ 1000) (hR : Rect cols L) (hL : 0 < L.length) (hLm : L.length ≤ 1000) (hA : RdC w0 A c cs) (hlc : cs.length ≤ 100000) (ia : -9223372036854775808 ≤ ca ∧ ca ≤ 9223372036854775807) (ib : -9223372036854775808 ≤ cb ∧ cb ≤ 9223372036854775807) (i_n : -9223372036854775808 ≤ n ∧ n ≤ 9223372036854775807) (hv : lineOk cs = true) :
  Calls Tryd.prog 43 #[.pointer (some ⟨p, 0, none⟩), .pointer (some ⟨x, 0, none⟩), .agg (av14 ⟨3, ↑row, ca, cb, n, y, A, c, cs, soft, q⟩)] w fun e w' => e = .returned (.bool true) ∧ Objs w0 w' (.grid p 58 cols (act14N ⟨3, ↑row, ca, cb, n, y, A, c, cs, soft, q⟩ cols L) :: .grid x 33 cols (act14N ⟨3, ↑row, ca, cb, n, y, A, c, cs, soft, q⟩ cols L) :: os) := by
 have HT := Lib.hid hT
 have S0 := Lib.hid hS
 have HR := Lib.hid hR
 have HA := Lib.hid hA
 have HM := Lib.hid (hR.mill hcm)
 have hlm2 : L.length ≤ 100000 := by omega
 have hlm3 : L.length ≤ 1000000 := by omega
 have HIA := Lib.hid ia
 have HIB := Lib.hid ib
 have HIN := Lib.hid i_n
 clear hT hS hR hA ia ib i_n
 have HE := Lib.hid (show setE ↑row cs L.length = 0 by have hh : here14 (row : Int) L.length = true := decide_eq_true (by omega); unfold setE; rw [if_neg (fun h => h hh), if_neg (fun h => h hv)])
 have HN := Lib.hid (show act14N ⟨3, ↑row, ca, cb, n, y, A, c, cs, soft, q⟩ cols L = L.set row ((fitTo cols cs), soft) by simp [act14N, HE.out])
 have HV := Lib.hid hv
 clear hv
 go_enter Tryd.func43, Tryd.ntmps43
 go_upto_region 1 with (fail)
 refine at_objsC S0.out.alloc1 (fun W hW => ?_)
 generalize w.heap.size = b5 at hW ⊢
 have S1 := Lib.hid hW
 clear hW S0
 obtain ⟨hx, hf, hz, hr, hp, hcl, hpc⟩ := (S1.out.box (k := 0) rfl).act14
 obtain ⟨Ax, cx, hBx, -, -⟩ := S1.out.gridRd (k := 2) rfl
 obtain ⟨hxx, hfx, hzx⟩ := hBx.facts
 clear hBx
 have d1 : decide ((0 : Int) ≤ (row : Int)) = true := decide_eq_true (by omega)
 have d2 : decide ((row : Int) < (L.length : Int)) = true := decide_eq_true (by omega)
 refine wp_region_below (by kernel_rfl) (by kernel_rfl) ?_
 repeat (go_big_quiet_step (fail))
 refine wpQuiet_nil ?_
 intro w2 hb2
 have S2 := Lib.hid (S1.out.bel hb2)
 clear hb2 S1
 clear hx hf hz hr hp hcl hpc hxx hfx hzx
 obtain ⟨hx, hf, hz, hr, hp, hcl, hpc⟩ := (S2.out.box (k := 0) rfl).act14
 obtain ⟨Ax, cx, hBx, -, -⟩ := S2.out.gridRd (k := 2) rfl
 obtain ⟨hxx, hfx, hzx⟩ := hBx.facts
 clear hBx
 go_wp2_with fail
 clear hx hf hz hr hp hcl hpc hxx hfx hzx
 refine wp_region_stage (w0 := w0) (os := (.grid p 58 ↑cols L :: .grid x 33 ↑cols L :: os)) (by kernel_rfl) (by kernel_rfl) (by kernel_rfl) [(0, 3, [3], fun vs => .cells (vs 3) cs), (0, 7, [7], fun vs => .cells (lineV (vs 7)) cs), (1, 8, [8], fun vs => .box (blkOf (vs 8)) 39 #[.slice none 0 0, .bool false]), (1, 9, [8, 7], fun vs => .box (blkOf (vs 8)) 39 #[lineV (vs 7), .bool soft])] [[], [], [2], [0], [], [], [2], [0], [1], [1]] [.none, .none, .box b5 90 (av14 ⟨3, ↑row, ca, cb, n, y, A, c, cs, soft, q⟩)] (fun opn u => match opn with | 0 => u = .pointer (some ⟨b5, 21, none⟩) | 1 => u = .pointer (some ⟨b5, 21, none⟩) | 2 => u = .slice A cs.length c | 3 => ∃ A n c, u = .slice A n c | 4 => u = .pointer (some ⟨b5, 21, none⟩) | 5 => u = .pointer (some ⟨b5, 22, none⟩) | 6 => u = .bool soft | 7 => ∃ A m c, u = .agg #[.slice A m c, .bool soft] | 8 => ∃ g, u = .pointer (some ⟨g, 0, none⟩) | 9 => True | _ => True) (fun vs => [.cells (lineV (vs 7)) cs, .box (blkOf (vs 8)) 39 #[lineV (vs 7), .bool soft], .box b5 90 (av14 ⟨3, ↑row, ca, cb, n, y, A, c, cs, soft, q⟩)]) (by kernel_rfl) (fun vs => by rfl) S2.out.pad.pad ?_ ?_
 ·refine SSteps.cons (fun a w' vs σ hS hl hs hk => ?_) ?_
  ·have f5 : a.tmps[5]?.getD undef = .pointer (some ⟨b5, 0, none⟩) := sof hk
   exact rp (.pointer (some ⟨b5, 21, none⟩)) (by simp [execOp, Act.eval, f5, go_sem]) hl hs hS
  refine SSteps.cons (fun a w' vs σ hS hl hs hk => ?_) ?_
  ·have f200 : a.tmps[200]?.getD undef = .pointer (some ⟨b5, 21, none⟩) := sf hk 0
   exact rp (.pointer (some ⟨b5, 21, none⟩)) (by simp [execOp, Act.eval, f200, go_sem]) hl hs hS
  refine SSteps.cons (fun a w' vs σ hS hl hs hk => ?_) ?_
  ·have f201 : a.tmps[201]?.getD undef = .pointer (some ⟨b5, 21, none⟩) := sf hk 1
   have hx := (hS.box (sg (hs 2 (by decide)))).cell
   exact rp (.slice A cs.length c) (by simp [execOp, Act.eval, f201, go_sem, hx]) hl hs hS
  refine SSteps.cons (fun a w' vs σ hS hl hs hk => ?_) ?_
  ·have e202 : a.tmps.getD 202 undef = .slice A cs.length c := sv hk 2
   have f202 := gd e202
   have h0 : σ[0]? = some .none := hs 0 (by decide)
   obtain ⟨v6, w6, hr, hS2, A6, c6, hv6⟩ := run_appO hS.nilCells (k := 0) rfl (hS.rd HA.out) (by simp; omega) 37
   exact rs_run (wanted_none rfl) (exec_app rfl rfl (by simp only [Act.eval]; exact e202) hr) (sp_set 0 (.cells v6 cs) (by kernel_rfl) (by simp) (by decide) hl hs (by rfl) (Objs.place (by simpa using hS2) (sg h0)) ⟨A6, _, c6, hv6⟩)
  refine SSteps.cons (fun a w' vs σ hS hl hs hk => ?_) ?_
  ·have f5 : a.tmps[5]?.getD undef = .pointer (some ⟨b5, 0, none⟩) := sof hk
   exact rp (.pointer (some ⟨b5, 21, none⟩)) (by simp [execOp, Act.eval, f5, go_sem]) hl hs hS
  refine SSteps.cons (fun a w' vs σ hS hl hs hk => ?_) ?_
  ·have f204 : a.tmps[204]?.getD undef = .pointer (some ⟨b5, 21, none⟩) := sf hk 4
   exact rp (.pointer (some ⟨b5, 22, none⟩)) (by simp [execOp, Act.eval, f204, go_sem]) hl hs hS
  refine SSteps.cons (fun a w' vs σ hS hl hs hk => ?_) ?_
  ·have f205 : a.tmps[205]?.getD undef = .pointer (some ⟨b5, 22, none⟩) := sf hk 5
   have hx := (hS.box (sg (hs 2 (by decide)))).cell
   exact rp (.bool soft) (by simp [execOp, Act.eval, f205, go_sem, hx]) hl hs hS
  refine SSteps.cons (fun a w' vs σ hS hl hs hk => ?_) ?_
  ·have e203 : a.tmps.getD 203 undef = vs 3 := sk_val hk 3 (by kernel_rfl) rfl rfl
   have p203 : (fun u : Value => ∃ A n c, u = .slice A n c) (vs 3) := (hk.1 3 (by kernel_rfl)).1
   have f203 := gd e203
   have f206 : a.tmps[206]?.getD undef = .bool soft := sf hk 6
   obtain ⟨A6, n6, c6, q6⟩ := p203
   have e9 := e203.trans q6
   have f9 := gd e9
   have h0 : σ[0]? = some (.cells (vs 3) cs) := hs 0 (by decide)
   rw [q6] at h0
   have hSS := hS
   rw [← set_self (sg (os := (.grid p 58 ↑cols L :: .grid x 33 ↑cols L :: os)) h0)] at hSS
   exact rs_run (v' := .agg #[.slice A6 n6 c6, .bool soft]) (w' := w') (wanted_none rfl) (by simp [execOp, Act.eval, e9, f9, f206, go_sem]) (sp_set 0 (.cells (.slice A6 n6 c6) cs) (by kernel_rfl) (by simp) (by decide) hl hs (by rfl) hSS ⟨A6, n6, c6, rfl⟩)
  refine SSteps.cons (fun a w' vs σ hS hl hs hk => ?_) ?_
  ·have h1 : σ[1]? = some .none := hs 1 (by decide)
   exact rs_run (v' := .pointer (some ⟨w'.heap.size, 0, none⟩)) (w' := w'.alloc (.cells #[.slice none 0 0, .bool false] 39)) (wanted_none rfl) (by simp [execOp, go_sem]) (sp_set 1 (.box w'.heap.size 39 #[.slice none 0 0, .bool false]) (by kernel_rfl) (by simp) (by decide) hl hs (by rfl) (hS.alloc1.place (sg h1)) ⟨_, rfl⟩)
  refine SSteps.cons (fun a w' vs σ hS hl hs hk => ?_) ?_
  ·have e9 : a.tmps.getD 9 undef = vs 8 := sk_val hk 8 (by kernel_rfl) rfl rfl
   have p9 : (fun u : Value => ∃ g, u = .pointer (some ⟨g, 0, none⟩)) (vs 8) := (hk.1 8 (by kernel_rfl)).1
   have f9 := gd e9
   have e207 : a.tmps.getD 207 undef = vs 7 := sk_val hk 7 (by kernel_rfl) rfl rfl
   have p207 : (fun u : Value => ∃ A m c, u = .agg #[.slice A m c, .bool soft]) (vs 7) := (hk.1 7 (by kernel_rfl)).1
   have f207 := gd e207
   obtain ⟨g9, q9⟩ := p9
   obtain ⟨A7, n7, c7, q7⟩ := p207
   have h1 : σ[1]? = some (.box (blkOf (vs 8)) 39 #[.slice none 0 0, .bool false]) := hs 1 (by decide)
   rw [q9, show blkOf (.pointer (some ⟨g9, 0, none⟩)) = g9 from rfl] at h1
   obtain ⟨hx, hf, hz⟩ := (hS.box (sg h1)).facts
   exact rstep_store (w2 := (w'.setCell ⟨g9, 0, none⟩ (.slice A7 n7 c7)).setCell ⟨g9, 1, none⟩ (.bool soft)) (wanted_none rfl) rfl (by simp [execOp, Act.eval, e9, f9, e207, f207, q9, q7, hx, hf, hz, go_sem]) (sp_set 1 (.box g9 39 #[.slice A7 n7 c7, .bool soft]) (by kernel_rfl) (by simp) (by decide) hl hs (by show Ob.box (blkOf (vs 8)) 39 #[lineV (vs 7), .bool soft] = _; rw [q9, q7]; rfl) (hS.setLine 1 _ soft (sg h1)) trivial) trivial
  exact SSteps.nil
 ·intro vs w' hS hv
  have q0 : vs 0 = .pointer (some ⟨b5, 21, none⟩) := hv 0 (by decide)
  have q1 : vs 1 = .pointer (some ⟨b5, 21, none⟩) := hv 1 (by decide)
  have q2 : vs 2 = .slice A cs.length c := hv 2 (by decide)
  have q4 : vs 4 = .pointer (some ⟨b5, 21, none⟩) := hv 4 (by decide)
  have q5 : vs 5 = .pointer (some ⟨b5, 22, none⟩) := hv 5 (by decide)
  have q6 : vs 6 = .bool soft := hv 6 (by decide)
  obtain ⟨g9, q8⟩ := (show ∃ g, vs 8 = .pointer (some ⟨g, 0, none⟩) from hv 8 (by decide))
  obtain ⟨A7, n7, c7, q7⟩ := (show ∃ A m c, vs 7 = .agg #[.slice A m c, .bool soft] from hv 7 (by decide))
  obtain ⟨A3, n3, c3, q3⟩ := (show ∃ A n c, vs 3 = .slice A n c from hv 3 (by decide))
  rw [q8, q7, show lineV (.agg #[.slice A7 n7 c7, .bool soft]) = .slice A7 n7 c7 from rfl, show blkOf (.pointer (some ⟨g9, 0, none⟩)) = g9 from rfl] at hS
  obtain ⟨Ao, co, e, -⟩ := hS.cellsRd (k := 0) rfl
  rw [e] at hS q7
  clear e
  have S2 := Lib.hid hS
  simp only [putL, Act.put, Nat.zero_add, Nat.reduceAdd, List.setIfInBounds_toArray, List.set_cons_succ, List.set_cons_zero, q0, q1, q2, q4, q5, q6]
  clear hS hv q0 q1 q2 q4 q5 q6
  simp only [q8, q7, q3]
  have S50 := Lib.hid (show Objs w0 _ (.grid p 58 ↑cols L :: .cells (.slice Ao cs.length co) cs :: .box g9 39 #[.slice Ao cs.length co, .bool soft] :: .box b5 90 (av14 ⟨3, ↑row, ca, cb, n, y, A, c, cs, soft, q⟩) :: .grid x 33 ↑cols L :: os) from (Objs.pick (σ := [_, _, _, _, _]) (os := os) S2.out [some 3, some 0, some 1, some 2, some 4] (by decide) rfl))
  clear S2 q8 q7 q3
  clear S2
  obtain ⟨hx, hf, hz, hr, hp, hcl, hpc⟩ := (S50.out.box (k := 3) rfl).act14
  obtain ⟨Ax, cx, hBx, -, -⟩ := S50.out.gridRd (k := 4) rfl
  obtain ⟨hxx, hfx, hzx⟩ := hBx.facts
  clear hBx
  obtain ⟨hx9, hf9, hz9⟩ := (S50.out.box (k := 2) rfl).facts
  go_wp2_with fail
  clear hx9 hf9 hz9
  clear hx hf hz hr hp hcl hpc hxx hfx hzx
  have hcon := lvalid_is HV.out A c soft _ (S50.out.tabs HT.out) (S50.out.rd HA.out) (by omega)
  refine hcon.mono ?_
  rintro e w3 ⟨rfl, hb⟩
  have S51 := Lib.hid (S50.out.bel hb)
  clear hb hcon S50
  obtain ⟨hx, hf, hz, hr, hp, hcl, hpc⟩ := (S51.out.box (k := 3) rfl).act14
  obtain ⟨Ax, cx, hBx, -, -⟩ := S51.out.gridRd (k := 4) rfl
  obtain ⟨hxx, hfx, hzx⟩ := hBx.facts
  clear hBx
  obtain ⟨hx9, hf9, hz9⟩ := (S51.out.box (k := 2) rfl).facts
  go_wp2_with fail
  clear hx9 hf9 hz9
  clear hx hf hz hr hp hcl hpc hxx hfx hzx
  refine wp_region_stage (w0 := w0) (os := os) (by kernel_rfl) (by kernel_rfl) (by kernel_rfl) [(0, 6, [6], fun vs => .cells (tupV (vs 6)) (fitTo cols cs)), (0, 7, [7], fun vs => .cells (tupV (vs 7)) (fitTo cols cs)), (0, 8, [8], fun vs => .cells (lineV (vs 8)) (fitTo cols cs)), (1, 10, [10], fun vs => .box (blkOf (vs 10)) 39 #[.slice none 0 0, .bool false]), (1, 11, [10, 8], fun vs => .box (blkOf (vs 10)) 39 #[lineV (vs 8), .bool soft])] [[], [5], [], [], [], [6], [0], [0], [0], [], [1], [1], []] [.none, .none, .grid p 58 ↑cols L, .cells (.slice Ao cs.length co) cs, .box g9 39 #[.slice Ao cs.length co, .bool soft], .box b5 90 (av14 ⟨3, ↑row, ca, cb, n, y, A, c, cs, soft, q⟩), .grid x 33 ↑cols L] (fun opn u => match opn with | 0 => u = .pointer (some ⟨b5, 21, none⟩) | 1 => u = .agg #[.slice A cs.length c, .bool soft] | 2 => u = .pointer (some ⟨x, 0, none⟩) | 3 => u = .pointer (some ⟨x, 0, none⟩) | 4 => u = .pointer (some ⟨x, 0, none⟩) | 5 => u = .int .i64 ↑cols | 6 => ∃ A m c, u = .tuple #[.agg #[.slice A m c, .bool soft], .int .i64 0] | 7 => ∃ A m c, u = .tuple #[.agg #[.slice A m c, .bool soft], .int .i64 0] | 8 => ∃ A m c, u = .agg #[.slice A m c, .bool soft] | 9 => u = .int .i64 0 | 10 => ∃ g, u = .pointer (some ⟨g, 0, none⟩) | 11 => True | 12 => u = .int .i64 0 | _ => True) (fun vs => [.cells (lineV (vs 8)) (fitTo cols cs), .box (blkOf (vs 10)) 39 #[lineV (vs 8), .bool soft], .grid p 58 ↑cols L, .cells (.slice Ao cs.length co) cs, .box g9 39 #[.slice Ao cs.length co, .bool soft], .box b5 90 (av14 ⟨3, ↑row, ca, cb, n, y, A, c, cs, soft, q⟩), .grid x 33 ↑cols L]) (by kernel_rfl) (fun vs => by rfl) S51.out.pad.pad ?_ ?_
  ·refine SSteps.cons (fun a w' vs σ hS hl hs hk => ?_) ?_
   ·have f5 : a.tmps[5]?.getD undef = .pointer (some ⟨b5, 0, none⟩) := sof hk
    exact rp (.pointer (some ⟨b5, 21, none⟩)) (by simp [execOp, Act.eval, f5, go_sem]) hl hs hS
   refine SSteps.cons (fun a w' vs σ hS hl hs hk => ?_) ?_
   ·have f209 : a.tmps[209]?.getD undef = .pointer (some ⟨b5, 21, none⟩) := sf hk 0
    have hx := (hS.box (sg (hs 5 (by decide)))).cell
    exact rp (.agg #[.slice A cs.length c, .bool soft]) (by simp [execOp, Act.eval, f209, go_sem, hx]) hl hs hS
   refine SSteps.cons (fun a w' vs σ hS hl hs hk => ?_) ?_
   ·have f1 : a.tmps[1]?.getD undef = .pointer (some ⟨x, 0, none⟩) := sof hk
    exact rp (.pointer (some ⟨x, 0, none⟩)) (by simp [execOp, Act.eval, f1, go_sem]) hl hs hS
   refine SSteps.cons (fun a w' vs σ hS hl hs hk => ?_) ?_
   ·have f211 : a.tmps[211]?.getD undef = .pointer (some ⟨x, 0, none⟩) := sf hk 2
    exact rp (.pointer (some ⟨x, 0, none⟩)) (by simp [execOp, Act.eval, f211, go_sem]) hl hs hS
   refine SSteps.cons (fun a w' vs σ hS hl hs hk => ?_) ?_
   ·have f212 : a.tmps[212]?.getD undef = .pointer (some ⟨x, 0, none⟩) := sf hk 3
    exact rp (.pointer (some ⟨x, 0, none⟩)) (by simp [execOp, Act.eval, f212, go_sem]) hl hs hS
   refine SSteps.cons (fun a w' vs σ hS hl hs hk => ?_) ?_
   ·have f213 : a.tmps[213]?.getD undef = .pointer (some ⟨x, 0, none⟩) := sf hk 4
    obtain ⟨A1, c1, hB1, -, -⟩ := hS.gridRd (sg (hs 6 (by decide)))
    have hx := hB1.cell
    exact rp (.int .i64 ↑cols) (by simp [execOp, Act.eval, f213, go_sem, hx]) hl hs hS
   refine SSteps.cons (fun a w' vs σ hS hl hs hk => ?_) ?_
   ·have e210 : a.tmps.getD 210 undef = .agg #[.slice A cs.length c, .bool soft] := sv hk 1
    have f210 := gd e210
    have e214 : a.tmps.getD 214 undef = .int .i64 ↑cols := sv hk 5
    have f214 := gd e214
    have h0 : σ[0]? = some .none := hs 0 (by decide)
    exact ro_call (f := 25) (wanted_none rfl) rfl (by simp only [List.map_toArray, List.map_cons, List.map_nil, Act.eval, e210, e214] <;> rfl) (fun _ _ => by kernel_rfl) ((lineFit_yes A c cs soft cols hcm w' (hS.tabs HT.out) (hS.rd HA.out) hlc HV.out).mono fun e w2 ⟨v3, h1, ho, hb⟩ => ⟨_, h1, sp_set 0 (.cells v3 (fitTo cols cs)) (by kernel_rfl) (by simp) (by decide) hl hs (by rfl) ((hS.newCells hb ho).place (sg h0)) (by obtain ⟨A', c', e, -⟩ := ho.form; exact ⟨A', _, c', by rw [e]⟩), trivial⟩)
   refine SSteps.cons (fun a w' vs σ hS hl hs hk => ?_) ?_
   ·have e215 : a.tmps.getD 215 undef = vs 6 := sk_val hk 6 (by kernel_rfl) rfl rfl
    have p215 : (fun u : Value => ∃ A m c, u = .tuple #[.agg #[.slice A m c, .bool soft], .int .i64 0]) (vs 6) := (hk.1 6 (by kernel_rfl)).1
    have f215 := gd e215
    obtain ⟨A9, n9, c9, q9⟩ := p215
    have e9 := e215.trans q9
    have f9 := gd e9
    have h0 : σ[0]? = some (.cells (tupV (vs 6)) (fitTo cols cs)) := hs 0 (by decide)
    rw [q9, show tupV (.tuple #[.agg #[.slice A9 n9 c9, .bool soft], .int .i64 0]) = .slice A9 n9 c9 from rfl] at h0
    have hSS : Objs w0 w' ((σ ++ os).set 0 (.cells (.slice A9 n9 c9) (fitTo cols cs))) := by rw [set_self (sg h0)]; exact hS
    exact rs_run (v' := .tuple #[.agg #[.slice A9 n9 c9, .bool soft], .int .i64 0]) (w' := w') (wanted_none rfl) (by simp [execOp, Act.eval, e9, f9, go_sem]) (sp_set 0 (.cells (.slice A9 n9 c9) (fitTo cols cs)) (by kernel_rfl) (by simp) (by decide) hl hs (by rfl) hSS ⟨A9, n9, c9, rfl⟩)
   refine SSteps.cons (fun a w' vs σ hS hl hs hk => ?_) ?_
   ·have e208 : a.tmps.getD 208 undef = vs 7 := sk_val hk 7 (by kernel_rfl) rfl rfl
    have p208 : (fun u : Value => ∃ A m c, u = .tuple #[.agg #[.slice A m c, .bool soft], .int .i64 0]) (vs 7) := (hk.1 7 (by kernel_rfl)).1
    have f208 := gd e208
    obtain ⟨A9, n9, c9, q9⟩ := p208
    have e9 := e208.trans q9
    have f9 := gd e9
    have h0 : σ[0]? = some (.cells (tupV (vs 7)) (fitTo cols cs)) := hs 0 (by decide)
    rw [q9, show tupV (.tuple #[.agg #[.slice A9 n9 c9, .bool soft], .int .i64 0]) = .slice A9 n9 c9 from rfl] at h0
    have hSS : Objs w0 w' ((σ ++ os).set 0 (.cells (.slice A9 n9 c9) (fitTo cols cs))) := by rw [set_self (sg h0)]; exact hS
    exact rs_run (v' := .agg #[.slice A9 n9 c9, .bool soft]) (w' := w') (wanted_none rfl) (by simp [execOp, Act.eval, e9, f9, go_sem]) (sp_set 0 (.cells (.slice A9 n9 c9) (fitTo cols cs)) (by kernel_rfl) (by simp) (by decide) hl hs (by rfl) hSS ⟨A9, n9, c9, rfl⟩)
   refine SSteps.cons (fun a w' vs σ hS hl hs hk => ?_) ?_
   ·have e208 : a.tmps.getD 208 undef = vs 7 := sk_val hk 7 (by kernel_rfl) rfl rfl
    have p208 : (fun u : Value => ∃ A m c, u = .tuple #[.agg #[.slice A m c, .bool soft], .int .i64 0]) (vs 7) := (hk.1 7 (by kernel_rfl)).1
    have f208 := gd e208
    obtain ⟨A9, n9, c9, q9⟩ := p208
    have e9 := e208.trans q9
    have f9 := gd e9
    exact ro_pure (v := .int .i64 0) (wanted_none rfl) (by simp [execOp, Act.eval, e9, f9, go_sem]) (sp_same (by kernel_rfl) hl hs hS rfl) trivial
   refine SSteps.cons (fun a w' vs σ hS hl hs hk => ?_) ?_
   ·have h1 : σ[1]? = some .none := hs 1 (by decide)
    exact rs_run (v' := .pointer (some ⟨w'.heap.size, 0, none⟩)) (w' := w'.alloc (.cells #[.slice none 0 0, .bool false] 39)) (wanted_none rfl) (by simp [execOp, go_sem]) (sp_set 1 (.box w'.heap.size 39 #[.slice none 0 0, .bool false]) (by kernel_rfl) (by simp) (by decide) hl hs (by rfl) (hS.alloc1.place (sg h1)) ⟨_, rfl⟩)
   refine SSteps.cons (fun a w' vs σ hS hl hs hk => ?_) ?_
   ·have e10 : a.tmps.getD 10 undef = vs 10 := sk_val hk 10 (by kernel_rfl) rfl rfl
    have p10 : (fun u : Value => ∃ g, u = .pointer (some ⟨g, 0, none⟩)) (vs 10) := (hk.1 10 (by kernel_rfl)).1
    have f10 := gd e10
    have e216 : a.tmps.getD 216 undef = vs 8 := sk_val hk 8 (by kernel_rfl) rfl rfl
    have p216 : (fun u : Value => ∃ A m c, u = .agg #[.slice A m c, .bool soft]) (vs 8) := (hk.1 8 (by kernel_rfl)).1
    have f216 := gd e216
    obtain ⟨g9', q9⟩ := p10
    obtain ⟨A7, n7, c7, q7⟩ := p216
    have h1 : σ[1]? = some (.box (blkOf (vs 10)) 39 #[.slice none 0 0, .bool false]) := hs 1 (by decide)
    rw [q9, show blkOf (.pointer (some ⟨g9', 0, none⟩)) = g9' from rfl] at h1
    obtain ⟨hx, hf, hz⟩ := (hS.box (sg h1)).facts
    exact rstep_store (w2 := (w'.setCell ⟨g9', 0, none⟩ (.slice A7 n7 c7)).setCell ⟨g9', 1, none⟩ (.bool soft)) (wanted_none rfl) rfl (by simp [execOp, Act.eval, e10, f10, e216, f216, q9, q7, hx, hf, hz, go_sem]) (sp_set 1 (.box g9' 39 #[.slice A7 n7 c7, .bool soft]) (by kernel_rfl) (by simp) (by decide) hl hs (by show Ob.box (blkOf (vs 10)) 39 #[lineV (vs 8), .bool soft] = _; rw [q9, q7]; rfl) (hS.setLine 1 _ soft (sg h1)) trivial) trivial
   refine SSteps.cons (fun a w' vs σ hS hl hs hk => ?_) ?_
   ·have f217 : a.tmps[217]?.getD undef = .int .i64 0 := sf hk 9
    exact rp (.int .i64 0) (by simp [execOp, Act.eval, f217, go_sem]) hl hs hS
   exact SSteps.nil
  ·intro vs w' hS hv
   have q0 : vs 0 = .pointer (some ⟨b5, 21, none⟩) := hv 0 (by decide)
   have q1 : vs 1 = .agg #[.slice A cs.length c, .bool soft] := hv 1 (by decide)
   have q2 : vs 2 = .pointer (some ⟨x, 0, none⟩) := hv 2 (by decide)
   have q3 : vs 3 = .pointer (some ⟨x, 0, none⟩) := hv 3 (by decide)
   have q4 : vs 4 = .pointer (some ⟨x, 0, none⟩) := hv 4 (by decide)
   have q5 : vs 5 = .int .i64 ↑cols := hv 5 (by decide)
   have q9 : vs 9 = .int .i64 0 := hv 9 (by decide)
   have q12 : vs 12 = .int .i64 0 := hv 12 (by decide)
   obtain ⟨g10, q10⟩ := (show ∃ g, vs 10 = .pointer (some ⟨g, 0, none⟩) from hv 10 (by decide))
   obtain ⟨A8, n8, c8, q8⟩ := (show ∃ A m c, vs 8 = .agg #[.slice A m c, .bool soft] from hv 8 (by decide))
   obtain ⟨A7, n7, c7, q7⟩ := (show ∃ A m c, vs 7 = .tuple #[.agg #[.slice A m c, .bool soft], .int .i64 0] from hv 7 (by decide))
   obtain ⟨A6, n6, c6, q6⟩ := (show ∃ A m c, vs 6 = .tuple #[.agg #[.slice A m c, .bool soft], .int .i64 0] from hv 6 (by decide))
   rw [q10, q8, show lineV (.agg #[.slice A8 n8 c8, .bool soft]) = .slice A8 n8 c8 from rfl, show blkOf (.pointer (some ⟨g10, 0, none⟩)) = g10 from rfl] at hS
   obtain ⟨Af, cf, e, -⟩ := hS.cellsRd (k := 0) rfl
   rw [fitTo_length] at e
   rw [e] at hS q8
   clear e
   have S2 := Lib.hid hS
   simp only [putL, Act.put, Nat.zero_add, Nat.reduceAdd, List.setIfInBounds_toArray, List.set_cons_succ, List.set_cons_zero, q0, q1, q2, q3, q4, q5, q9, q12]
   clear hS hv q0 q1 q2 q3 q4 q5 q9 q12
   simp only [q10, q8, q7, q6]
   have S60 := Lib.hid (show Objs w0 _ (.cells (.slice Af cols cf) (fitTo cols cs) :: .box g10 39 #[.slice Af cols cf, .bool soft] :: .grid p 58 ↑cols L :: .cells (.slice Ao cs.length co) cs :: .box g9 39 #[.slice Ao cs.length co, .bool soft] :: .box b5 90 (av14 ⟨3, ↑row, ca, cb, n, y, A, c, cs, soft, q⟩) :: .grid x 33 ↑cols L :: os) from S2.out)
   clear S2 q10 q8 q7 q6
   clear S51
   obtain ⟨hx, hf, hz, hr, hp, hcl, hpc⟩ := (S60.out.box (k := 5) rfl).act14
   obtain ⟨Ax, cx, hBx, -, -⟩ := S60.out.gridRd (k := 6) rfl
   obtain ⟨hxx, hfx, hzx⟩ := hBx.facts
   clear hBx
   obtain ⟨hx10, hf10, hz10⟩ := (S60.out.box (k := 1) rfl).facts
   go_wp2_with fail
   refine wp_region_below (by kernel_rfl) (by kernel_rfl) ?_
   repeat (go_big_quiet_step (fail))
   refine wpQuiet_nil ?_
   intro w2 hb2
   have S61 := Lib.hid (S60.out.bel hb2)
   clear hb2 S60
   clear hx hf hz hr hp hcl hpc hxx hfx hzx
   clear hx10 hf10 hz10
   obtain ⟨hx, hf, hz, hr, hp, hcl, hpc⟩ := (S61.out.box (k := 5) rfl).act14
   obtain ⟨Ax, cx, hBx, -, -⟩ := S61.out.gridRd (k := 6) rfl
   obtain ⟨hxx, hfx, hzx⟩ := hBx.facts
   clear hBx
   go_wp2_with fail
   clear hx hf hz hr hp hcl hpc hxx hfx hzx
   obtain ⟨l, hl⟩ := get_of h0
   have HL := Lib.hid hl
   clear hl
   obtain ⟨v, hO1⟩ := S61.out.openGrid (k := 6) rfl
   obtain ⟨b, hO2⟩ := hO1.openRow (k := 0) rfl HL.out
   obtain ⟨gr, cg, rfl, -, -, -, -, -, -, -⟩ := hO2.linesxRd (k := 1) rfl
   have S64 := Lib.hid (show Objs w0 _ (.cells b l.1 :: .linesx (.slice (some ⟨gr, 0, none⟩) L.length cg) L row b :: .cells (.slice Af cols cf) (fitTo cols cs) :: .box g10 39 #[.slice Af cols cf, .bool soft] :: .grid p 58 ↑cols L :: .cells (.slice Ao cs.length co) cs :: .box g9 39 #[.slice Ao cs.length co, .bool soft] :: .box b5 90 (av14 ⟨3, ↑row, ca, cb, n, y, A, c, cs, soft, q⟩) :: .box x 33 #[.int .i64 ↑cols, .slice (some ⟨gr, 0, none⟩) L.length cg] :: os) from hO2)
   have hb0 : (0 : Int) ≤ (row : Int) := by omega
   have hb1 : (row : Int) < (L.length : Int) := by omega
   clear hO1 hO2 S61
   refine wp_region_stage (w0 := w0) (os := os) (by kernel_rfl) (by kernel_rfl) (by kernel_rfl) [(1, 8, [], fun vs => .lines (.slice (some ⟨gr, 0, none⟩) L.length cg) (L.set row ((fitTo cols cs), soft))), (2, 8, [], fun vs => .none)] [[], [], [], [8], [], [7], [3], [], [1, 2]] [.cells b l.1, .linesx (.slice (some ⟨gr, 0, none⟩) L.length cg) L row b, .cells (.slice Af cols cf) (fitTo cols cs), .box g10 39 #[.slice Af cols cf, .bool soft], .grid p 58 ↑cols L, .cells (.slice Ao cs.length co) cs, .box g9 39 #[.slice Ao cs.length co, .bool soft], .box b5 90 (av14 ⟨3, ↑row, ca, cb, n, y, A, c, cs, soft, q⟩), .box x 33 #[.int .i64 ↑cols, .slice (some ⟨gr, 0, none⟩) L.length cg]] (fun opn u => match opn with | 0 => u = .pointer (some ⟨x, 0, none⟩) | 1 => u = .pointer (some ⟨x, 0, none⟩) | 2 => u = .pointer (some ⟨x, 1, none⟩) | 3 => u = .slice (some ⟨gr, 0, none⟩) L.length cg | 4 => u = .pointer (some ⟨b5, 1, none⟩) | 5 => u = .int .i64 ↑row | 6 => u = .agg #[.slice Af cols cf, .bool soft] | 7 => u = .pointer (some ⟨gr, row * 2, none⟩) | 8 => True | _ => True) (fun vs => [.cells b l.1, .lines (.slice (some ⟨gr, 0, none⟩) L.length cg) (L.set row ((fitTo cols cs), soft)), .none, .box g10 39 #[.slice Af cols cf, .bool soft], .grid p 58 ↑cols L, .cells (.slice Ao cs.length co) cs, .box g9 39 #[.slice Ao cs.length co, .bool soft], .box b5 90 (av14 ⟨3, ↑row, ca, cb, n, y, A, c, cs, soft, q⟩), .box x 33 #[.int .i64 ↑cols, .slice (some ⟨gr, 0, none⟩) L.length cg]]) (by kernel_rfl) (fun vs => by rfl) S64.out ?_ ?_
   ·refine SSteps.cons (fun a w' vs σ hS hl hs hk => ?_) ?_
    ·have f1 : a.tmps[1]?.getD undef = .pointer (some ⟨x, 0, none⟩) := sof hk
     exact rp (.pointer (some ⟨x, 0, none⟩)) (by simp [execOp, Act.eval, f1, go_sem]) hl hs hS
    refine SSteps.cons (fun a w' vs σ hS hl hs hk => ?_) ?_
    ·have f230 : a.tmps[230]?.getD undef = .pointer (some ⟨x, 0, none⟩) := sf hk 0
     exact rp (.pointer (some ⟨x, 0, none⟩)) (by simp [execOp, Act.eval, f230, go_sem]) hl hs hS
    refine SSteps.cons (fun a w' vs σ hS hl hs hk => ?_) ?_
    ·have f231 : a.tmps[231]?.getD undef = .pointer (some ⟨x, 0, none⟩) := sf hk 1
     exact rp (.pointer (some ⟨x, 1, none⟩)) (by simp [execOp, Act.eval, f231, go_sem]) hl hs hS
    refine SSteps.cons (fun a w' vs σ hS hl hs hk => ?_) ?_
    ·have f232 : a.tmps[232]?.getD undef = .pointer (some ⟨x, 1, none⟩) := sf hk 2
     have hx := (hS.box (sg (hs 8 (by decide)))).cell
     exact rp (.slice (some ⟨gr, 0, none⟩) L.length cg) (by simp [execOp, Act.eval, f232, go_sem, hx]) hl hs hS
    refine SSteps.cons (fun a w' vs σ hS hl hs hk => ?_) ?_
    ·have f5 : a.tmps[5]?.getD undef = .pointer (some ⟨b5, 0, none⟩) := sof hk
     exact rp (.pointer (some ⟨b5, 1, none⟩)) (by simp [execOp, Act.eval, f5, go_sem]) hl hs hS
    refine SSteps.cons (fun a w' vs σ hS hl hs hk => ?_) ?_
    ·have f234 : a.tmps[234]?.getD undef = .pointer (some ⟨b5, 1, none⟩) := sf hk 4
     have hx := (hS.box (sg (hs 7 (by decide)))).cell
     exact rp (.int .i64 ↑row) (by simp [execOp, Act.eval, f234, go_sem, hx]) hl hs hS
    refine SSteps.cons (fun a w' vs σ hS hl hs hk => ?_) ?_
    ·have f10 : a.tmps[10]?.getD undef = .pointer (some ⟨g10, 0, none⟩) := sof hk
     have hx := (hS.box (sg (hs 3 (by decide)))).cell
     exact rp (.agg #[.slice Af cols cf, .bool soft]) (by simp [execOp, Act.eval, f10, go_sem, hx]) hl hs hS
    refine SSteps.cons (fun a w' vs σ hS hl hs hk => ?_) ?_
    ·have f233 : a.tmps[233]?.getD undef = .slice (some ⟨gr, 0, none⟩) L.length cg := sf hk 3
     have f235 : a.tmps[235]?.getD undef = .int .i64 ↑row := sf hk 5
     exact rp (.pointer (some ⟨gr, row * 2, none⟩)) (by simp [execOp, Act.eval, f233, f235, go_sem, hb0, hb1]) hl hs hS
    refine SSteps.cons (fun a w' vs σ hS hl hs hk => ?_) ?_
    ·have f237 : a.tmps[237]?.getD undef = .pointer (some ⟨gr, row * 2, none⟩) := sf hk 7
     have f236 : a.tmps[236]?.getD undef = .agg #[.slice Af cols cf, .bool soft] := sf hk 6
     have h1 : σ[1]? = some (.linesx (.slice (some ⟨gr, 0, none⟩) L.length cg) L row b) := hs 1 (by decide)
     have h2 : σ[2]? = some (.cells (.slice Af cols cf) (fitTo cols cs)) := hs 2 (by decide)
     obtain ⟨g', c', e', -, -, -, hz, hc1, hc2, hf⟩ := hS.linesxRd (sg h1)
     simp only [Value.slice.injEq, Option.some.injEq, Addr.mk.injEq, and_true, true_and] at e'
     obtain ⟨rfl, -⟩ := e'
     have hc2 := hc2 l HL.out
     exact rstep_store (w2 := (w'.setCell ⟨gr, row * 2, none⟩ (.slice Af cols cf)).setCell ⟨gr, row * 2 + 1, none⟩ (.bool soft)) (wanted_none rfl) rfl (by simp [execOp, Act.eval, f237, f236, hf, hz, hc1, hc2, go_sem]) (sp_set2 1 2 (.lines (.slice (some ⟨gr, 0, none⟩) L.length cg) (L.set row ((fitTo cols cs), soft))) .none (by decide) (by kernel_rfl) (by simp) (by simp) (by decide) (by decide) hl hs (by rfl) (by rfl) (hS.storeLine (k := 1) (j := 2) (s := soft) (sg h1) (sg h2) (by decide) HL.out) trivial) trivial
    exact SSteps.nil
   ·intro vs w' hS hv
    have q0 : vs 0 = .pointer (some ⟨x, 0, none⟩) := hv 0 (by decide)
    have q1 : vs 1 = .pointer (some ⟨x, 0, none⟩) := hv 1 (by decide)
    have q2 : vs 2 = .pointer (some ⟨x, 1, none⟩) := hv 2 (by decide)
    have q3 : vs 3 = .slice (some ⟨gr, 0, none⟩) L.length cg := hv 3 (by decide)
    have q4 : vs 4 = .pointer (some ⟨b5, 1, none⟩) := hv 4 (by decide)
    have q5 : vs 5 = .int .i64 ↑row := hv 5 (by decide)
    have q6 : vs 6 = .agg #[.slice Af cols cf, .bool soft] := hv 6 (by decide)
    have q7 : vs 7 = .pointer (some ⟨gr, row * 2, none⟩) := hv 7 (by decide)
    have S2 := Lib.hid hS
    simp only [putL, Act.put, Nat.zero_add, Nat.reduceAdd, List.setIfInBounds_toArray, List.set_cons_succ, List.set_cons_zero, q0, q1, q2, q3, q4, q5, q6, q7]
    clear hS hv q0 q1 q2 q3 q4 q5 q6 q7
    have S65 := Lib.hid (show Objs w0 _ (.grid p 58 ↑cols L :: .cells (.slice Ao cs.length co) cs :: .box g9 39 #[.slice Ao cs.length co, .bool soft] :: .box b5 90 (av14 ⟨3, ↑row, ca, cb, n, y, A, c, cs, soft, q⟩) :: .grid x 33 ↑cols (L.set row ((fitTo cols cs), soft)) :: os) from (show Objs w0 _ (.lines _ _ :: _) from (Objs.pick (σ := [_, _, _, _, _, _, _, _, _]) (os := os) S2.out [some 1, some 4, some 5, some 6, some 7, some 8] (by decide) rfl)).closeGrid (k := 4) rfl)
    clear S2 S64
    obtain ⟨hx, hf, hz, hr, hp, hcl, hpc⟩ := (S65.out.box (k := 3) rfl).act14
    obtain ⟨Ax, cx, hBx, -, -⟩ := S65.out.gridRd (k := 4) rfl
    obtain ⟨hxx, hfx, hzx⟩ := hBx.facts
    clear hBx
    obtain ⟨hx9, hf9, hz9⟩ := (S65.out.box (k := 2) rfl).facts
    go_wp2_with fail
    clear hx9 hf9 hz9
    clear hx hf hz hr hp hcl hpc hxx hfx hzx
    have hcon := SetLine_yes (i := row) (n := cs.length) (A := Ao) (c := co) (cs := cs) (s := soft) HT.out S65.out hc hcm HL.out rfl (fun w' ⟨F, hF⟩ _ => (own_rdc hF.1).2) hlc HV.out
    refine hcon.mono ?_
    rintro e w3 ⟨rfl, hS⟩
    have S66 := Lib.hid hS
    clear hS hcon S65
    obtain ⟨hx, hf, hz, hr, hp, hcl, hpc⟩ := (S66.out.box (k := 3) rfl).act14
    obtain ⟨Ax, cx, hBx, -, -⟩ := S66.out.gridRd (k := 4) rfl
    obtain ⟨hxx, hfx, hzx⟩ := hBx.facts
    clear hBx
    obtain ⟨hx9, hf9, hz9⟩ := (S66.out.box (k := 2) rfl).facts
    go_wp2_with fail
    clear hx9 hf9 hz9
    clear hx hf hz hr hp hcl hpc hxx hfx hzx
    go_loopw [13] (fun vi wr => ∃ (k : Nat) (mc : List Cell), k ≤ cs.length ∧ vi = .int .i64 k ∧ Hid (mc.length = cs.length) ∧ Objs w0 wr (.grid p 58 ↑cols (L.set row ((fitTo cols cs), soft)) :: .cells (.slice Ao cs.length co) mc :: .box g9 39 #[.slice Ao cs.length co, .bool soft] :: .box b5 90 (av14 ⟨3, ↑row, ca, cb, n, y, A, c, cs, soft, q⟩) :: .grid x 33 ↑cols (L.set row ((fitTo cols cs), soft)) :: os)) (fun vi _ => cs.length - (intOf vi).toNat)
    case atStart => exact ⟨0, cs, Nat.zero_le _, rfl, Lib.hid rfl, S66.out⟩
    case round =>
    clear S66
    obtain ⟨k, mc, hk, rfl, HMC, hS⟩ := hrel
    obtain ⟨hx9, hf9, hz9⟩ := (hS.box (k := 2) rfl).facts
    by_cases hlt : k < cs.length
    case neg =>
     have S70 := Lib.hid hS
     clear hS
     go_wp2_with fail
     go_ret
     exact ⟨rfl, by rw [HN.out]; exact (Objs.pick (σ := [_, _, _, _, _]) (os := os) S70.out [some 0, some 4] (by decide) rfl)⟩
    obtain ⟨xm, hxm⟩ := get_of (show k < mc.length by rw [HMC.out]; exact hlt)
    obtain ⟨gm, cm, e, hzm, hcw, hfm⟩ := hS.ownAt (k := 1) (j := k) rfl hxm
    simp only [Value.slice.injEq] at e
    obtain ⟨rfl, -, rfl⟩ := e
    have hS2 := hS.setWidth (k := 1) rfl hxm 9
    rw [cellW_at hxm] at hS2
    have S71 := Lib.hid hS2
    have hb0 : (0 : Int) ≤ (k : Int) := by omega
    have hb1 : (k : Int) < (cs.length : Int) := by omega
    clear hS hS2
    go_wp2_with fail
    go_roundw
    case rel => exact ⟨k + 1, set9 k mc, by omega, by go_num, Lib.hid (by rw [set9_length]; exact HMC.out), S71.out⟩
    case measure => simp [intOf]; omega
end
end Go.Proofs.YtppijfjigcoifaaDoor
