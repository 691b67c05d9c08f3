/-
  Part 7 of the texts on which the proofs of this seat stand: each part says ahead of it what it shows.
-/
import Derived.Test.YtppijfjigcoifaaDoorQ6
import Derived.ProofKit
import Derived.OpenShut
import Derived.Deep.Slices
import Derived.Lib.LaidTab
import Derived.ChangeSame
import Derived.Carry
import Derived.Test.YtppijfjigcoifaaDoorCards
import Derived.Test.YtppijfjigcoifaaDoorTie
import Derived.WalkKit
import Derived.Deep.DeepHandedRow
set_option linter.unusedSimpArgs false
set_option linter.unusedVariables false
namespace Go.Proofs.YtppijfjigcoifaaDoor
open Go.RowKit

section
variable {w0 w : World} {os : List Ob} {p x cols : Nat} {L : List Ln}
set_option maxRecDepth 100000 in
set_option maxHeartbeats 8000000 in
theorem does_clr_out (row : Int) (h0 : row < 0 ∨ (0 ≤ row ∧ (L.length : Int) ≤ row)) (ca cb n : Int) (y : Cell) (A : Option Addr) (c : Nat) (cs : List Cell) (soft : Bool) (q : Pen) (hT : Tabs w0) (hS : Objs w0 w (.grid p 58 cols L :: .grid x 33 cols L :: os)) (hc : 0 < cols) (hcm : cols ≤ 1000) (hR : Rect cols L) (hL : 0 < L.length) (hLm : L.length ≤ 1000) (hA : RdC w0 A c cs) (hlc : cs.length ≤ 100000) (ia : -9223372036854775808 ≤ ca ∧ ca ≤ 9223372036854775807) (ib : -9223372036854775808 ≤ cb ∧ cb ≤ 9223372036854775807) (i_n : -9223372036854775808 ≤ n ∧ n ≤ 9223372036854775807) :
  Calls Tryd.prog 43 #[.pointer (some ⟨p, 0, none⟩), .pointer (some ⟨x, 0, none⟩), .agg (av14 ⟨1, row, ca, cb, n, y, A, c, cs, soft, q⟩)] w fun e w' => e = .returned (.bool true) ∧ Objs w0 w' (.grid p 58 cols (act14N ⟨1, row, ca, cb, n, y, A, c, cs, soft, q⟩ cols L) :: .grid x 33 cols (act14N ⟨1, row, ca, cb, n, y, A, c, cs, soft, q⟩ cols L) :: os) := by
 have HT := Lib.hid hT
 have S0 := Lib.hid hS
 have HR := Lib.hid hR
 have HA := Lib.hid hA
 have HM := Lib.hid (hR.mill hcm)
 have hlm2 : L.length ≤ 100000 := by omega
 have hlm3 : L.length ≤ 1000000 := by omega
 have HIA := Lib.hid ia
 have HIB := Lib.hid ib
 have HIN := Lib.hid i_n
 clear hT hS hR hA ia ib i_n
 rcases h0 with h0 | ⟨h0, h1⟩
 all_goals
  have HE := Lib.hid (show clrE row ca cb q cols L.length = 3 by have hh : here14 row L.length = false := decide_eq_false (by omega); unfold clrE; rw [if_pos (fun h => by rw [hh] at h; exact absurd h.1 (by decide))])
  have HN := Lib.hid (show act14N ⟨1, row, ca, cb, n, y, A, c, cs, soft, q⟩ cols L = L by simp [act14N, HE.out])
  go_enter Tryd.func43, Tryd.ntmps43
  go_upto_region 1 with (fail)
  refine at_objsC S0.out.alloc1 (fun W hW => ?_)
  generalize w.heap.size = b5 at hW ⊢
  have S1 := Lib.hid hW
  clear hW S0
  obtain ⟨hx, hf, hz, hr, hp, hcl, hpc⟩ := (S1.out.box (k := 0) rfl).act14
  obtain ⟨Ax, cx, hBx, -, -⟩ := S1.out.gridRd (k := 2) rfl
  obtain ⟨hxx, hfx, hzx⟩ := hBx.facts
  clear hBx
  first | (have d1 : decide ((0 : Int) ≤ row) = false := decide_eq_false (by omega)) | (have d1 : decide ((0 : Int) ≤ row) = true := decide_eq_true (by omega))
  first | (have d2 : decide (row < (L.length : Int)) = false := decide_eq_false (by omega)) | (have d2 : decide (row < (L.length : Int)) = true := decide_eq_true (by omega))
  refine wp_region_below (by kernel_rfl) (by kernel_rfl) ?_
  repeat (go_big_quiet_step (fail))
  refine wpQuiet_nil ?_
  intro w2 hb2
  have S2 := Lib.hid (S1.out.bel hb2)
  clear hb2 S1
  clear hx hf hz hr hp hcl hpc hxx hfx hzx
  obtain ⟨hx, hf, hz, hr, hp, hcl, hpc⟩ := (S2.out.box (k := 0) rfl).act14
  obtain ⟨Ax, cx, hBx, -, -⟩ := S2.out.gridRd (k := 2) rfl
  obtain ⟨hxx, hfx, hzx⟩ := hBx.facts
  clear hBx
  go_wp2_with fail
  refine wp_region_below (by kernel_rfl) (by kernel_rfl) ?_
  repeat (go_big_quiet_step (fail))
  refine wpQuiet_nil ?_
  intro w2 hb2
  have S3 := Lib.hid (S2.out.bel hb2)
  clear hb2 S2
  clear hx hf hz hr hp hcl hpc hxx hfx hzx
  obtain ⟨hx, hf, hz, hr, hp, hcl, hpc⟩ := (S3.out.box (k := 0) rfl).act14
  obtain ⟨Ax, cx, hBx, -, -⟩ := S3.out.gridRd (k := 2) rfl
  obtain ⟨hxx, hfx, hzx⟩ := hBx.facts
  clear hBx
  go_wp2_with fail
  have hcon := ClearN q HT.out S3.out (k := 1) rfl hc hcm (row := row) (f := ca) (t := cb) (by rw [HE.out]; decide)
  rw [HE.out] at hcon
  refine hcon.mono ?_
  rintro e w3 ⟨rfl, hS⟩
  have S4 := Lib.hid hS
  clear hS hcon S3
  clear hx hf hz hr hp hcl hpc hxx hfx hzx
  obtain ⟨hx, hf, hz, hr, hp, hcl, hpc⟩ := (S4.out.box (k := 0) rfl).act14
  obtain ⟨Ax, cx, hBx, -, -⟩ := S4.out.gridRd (k := 2) rfl
  obtain ⟨hxx, hfx, hzx⟩ := hBx.facts
  clear hBx
  go_wp2_with fail
  go_ret
  exact ⟨rfl, by rw [HN.out]; exact S4.out.tail⟩
set_option maxRecDepth 100000 in
set_option maxHeartbeats 8000000 in
theorem does_shf_out (row : Int) (h0 : row < 0 ∨ (0 ≤ row ∧ (L.length : Int) ≤ row)) (ca cb n : Int) (y : Cell) (A : Option Addr) (c : Nat) (cs : List Cell) (soft : Bool) (q : Pen) (hT : Tabs w0) (hS : Objs w0 w (.grid p 58 cols L :: .grid x 33 cols L :: os)) (hc : 0 < cols) (hcm : cols ≤ 1000) (hR : Rect cols L) (hL : 0 < L.length) (hLm : L.length ≤ 1000) (hA : RdC w0 A c cs) (hlc : cs.length ≤ 100000) (ia : -9223372036854775808 ≤ ca ∧ ca ≤ 9223372036854775807) (ib : -9223372036854775808 ≤ cb ∧ cb ≤ 9223372036854775807) (i_n : -9223372036854775808 ≤ n ∧ n ≤ 9223372036854775807) :
  Calls Tryd.prog 43 #[.pointer (some ⟨p, 0, none⟩), .pointer (some ⟨x, 0, none⟩), .agg (av14 ⟨2, row, ca, cb, n, y, A, c, cs, soft, q⟩)] w fun e w' => e = .returned (.bool true) ∧ Objs w0 w' (.grid p 58 cols (act14N ⟨2, row, ca, cb, n, y, A, c, cs, soft, q⟩ cols L) :: .grid x 33 cols (act14N ⟨2, row, ca, cb, n, y, A, c, cs, soft, q⟩ cols L) :: os) := by
 have HT := Lib.hid hT
 have S0 := Lib.hid hS
 have HR := Lib.hid hR
 have HA := Lib.hid hA
 have HM := Lib.hid (hR.mill hcm)
 have hlm2 : L.length ≤ 100000 := by omega
 have hlm3 : L.length ≤ 1000000 := by omega
 have HIA := Lib.hid ia
 have HIB := Lib.hid ib
 have HIN := Lib.hid i_n
 clear hT hS hR hA ia ib i_n
 rcases h0 with h0 | ⟨h0, h1⟩
 all_goals
  have HE := Lib.hid (show shfE row ca q cols L.length = 3 by have hh : here14 row L.length = false := decide_eq_false (by omega); unfold shfE; rw [if_pos (fun h => by rw [hh] at h; exact absurd h.1 (by decide))])
  have HN := Lib.hid (show act14N ⟨2, row, ca, cb, n, y, A, c, cs, soft, q⟩ cols L = L by simp [act14N, HE.out])
  go_enter Tryd.func43, Tryd.ntmps43
  go_upto_region 1 with (fail)
  refine at_objsC S0.out.alloc1 (fun W hW => ?_)
  generalize w.heap.size = b5 at hW ⊢
  have S1 := Lib.hid hW
  clear hW S0
  obtain ⟨hx, hf, hz, hr, hp, hcl, hpc⟩ := (S1.out.box (k := 0) rfl).act14
  obtain ⟨Ax, cx, hBx, -, -⟩ := S1.out.gridRd (k := 2) rfl
  obtain ⟨hxx, hfx, hzx⟩ := hBx.facts
  clear hBx
  first | (have d1 : decide ((0 : Int) ≤ row) = false := decide_eq_false (by omega)) | (have d1 : decide ((0 : Int) ≤ row) = true := decide_eq_true (by omega))
  first | (have d2 : decide (row < (L.length : Int)) = false := decide_eq_false (by omega)) | (have d2 : decide (row < (L.length : Int)) = true := decide_eq_true (by omega))
  refine wp_region_below (by kernel_rfl) (by kernel_rfl) ?_
  repeat (go_big_quiet_step (fail))
  refine wpQuiet_nil ?_
  intro w2 hb2
  have S2 := Lib.hid (S1.out.bel hb2)
  clear hb2 S1
  clear hx hf hz hr hp hcl hpc hxx hfx hzx
  obtain ⟨hx, hf, hz, hr, hp, hcl, hpc⟩ := (S2.out.box (k := 0) rfl).act14
  obtain ⟨Ax, cx, hBx, -, -⟩ := S2.out.gridRd (k := 2) rfl
  obtain ⟨hxx, hfx, hzx⟩ := hBx.facts
  clear hBx
  go_wp2_with fail
  refine wp_region_below (by kernel_rfl) (by kernel_rfl) ?_
  repeat (go_big_quiet_step (fail))
  refine wpQuiet_nil ?_
  intro w2 hb2
  have S3 := Lib.hid (S2.out.bel hb2)
  clear hb2 S2
  clear hx hf hz hr hp hcl hpc hxx hfx hzx
  obtain ⟨hx, hf, hz, hr, hp, hcl, hpc⟩ := (S3.out.box (k := 0) rfl).act14
  obtain ⟨Ax, cx, hBx, -, -⟩ := S3.out.gridRd (k := 2) rfl
  obtain ⟨hxx, hfx, hzx⟩ := hBx.facts
  clear hBx
  go_wp2_with fail
  have hcon := ShiftN q HT.out S3.out (k := 1) rfl hc hcm (row := row) (col := ca) (n := cb) (by rw [HE.out]; decide)
  rw [HE.out] at hcon
  refine hcon.mono ?_
  rintro e w3 ⟨rfl, hS⟩
  have S4 := Lib.hid hS
  clear hS hcon S3
  clear hx hf hz hr hp hcl hpc hxx hfx hzx
  obtain ⟨hx, hf, hz, hr, hp, hcl, hpc⟩ := (S4.out.box (k := 0) rfl).act14
  obtain ⟨Ax, cx, hBx, -, -⟩ := S4.out.gridRd (k := 2) rfl
  obtain ⟨hxx, hfx, hzx⟩ := hBx.facts
  clear hBx
  go_wp2_with fail
  go_ret
  exact ⟨rfl, by rw [HN.out]; exact S4.out.tail⟩
set_option maxRecDepth 100000 in
set_option maxHeartbeats 8000000 in
theorem does_clr_a (row : Nat) (h0 : row < L.length) (ca cb n : Int) (y : Cell) (A : Option Addr) (c : Nat) (cs : List Cell) (soft : Bool) (q : Pen) (hT : Tabs w0) (hS : Objs w0 w (.grid p 58 cols L :: .grid x 33 cols L :: os)) (hc : 0 < cols) (hcm : cols ≤ 1000) (hR : Rect cols L) (hL : 0 < L.length) (hLm : L.length ≤ 1000) (hA : RdC w0 A c cs) (hlc : cs.length ≤ 100000) (ia : -9223372036854775808 ≤ ca ∧ ca ≤ 9223372036854775807) (ib : -9223372036854775808 ≤ cb ∧ cb ≤ 9223372036854775807) (i_n : -9223372036854775808 ≤ n ∧ n ≤ 9223372036854775807) (h1 : ca < 0) :
  Calls Tryd.prog 43 #[.pointer (some ⟨p, 0, none⟩), .pointer (some ⟨x, 0, none⟩), .agg (av14 ⟨1, ↑row, ca, cb, n, y, A, c, cs, soft, q⟩)] w fun e w' => e = .returned (.bool true) ∧ Objs w0 w' (.grid p 58 cols (act14N ⟨1, ↑row, ca, cb, n, y, A, c, cs, soft, q⟩ cols L) :: .grid x 33 cols (act14N ⟨1, ↑row, ca, cb, n, y, A, c, cs, soft, q⟩ cols L) :: os) := by
 have HT := Lib.hid hT
 have S0 := Lib.hid hS
 have HR := Lib.hid hR
 have HA := Lib.hid hA
 have HM := Lib.hid (hR.mill hcm)
 have hlm2 : L.length ≤ 100000 := by omega
 have hlm3 : L.length ≤ 1000000 := by omega
 have HIA := Lib.hid ia
 have HIB := Lib.hid ib
 have HIN := Lib.hid i_n
 clear hT hS hR hA ia ib i_n
 have HE := Lib.hid (show clrE ↑row ca cb q cols L.length = 3 by have hh : here14 (row : Int) L.length = true := decide_eq_true (by omega); unfold clrE; rw [if_pos (fun h => by have := h.2; omega)])
 have HN := Lib.hid (show act14N ⟨1, ↑row, ca, cb, n, y, A, c, cs, soft, q⟩ cols L = L by simp [act14N, HE.out])
 go_enter Tryd.func43, Tryd.ntmps43
 go_upto_region 1 with (fail)
 refine at_objsC S0.out.alloc1 (fun W hW => ?_)
 generalize w.heap.size = b5 at hW ⊢
 have S1 := Lib.hid hW
 clear hW S0
 obtain ⟨hx, hf, hz, hr, hp, hcl, hpc⟩ := (S1.out.box (k := 0) rfl).act14
 obtain ⟨Ax, cx, hBx, -, -⟩ := S1.out.gridRd (k := 2) rfl
 obtain ⟨hxx, hfx, hzx⟩ := hBx.facts
 clear hBx
 have d1 : decide ((0 : Int) ≤ (row : Int)) = true := decide_eq_true (by omega)
 have d2 : decide ((row : Int) < (L.length : Int)) = true := decide_eq_true (by omega)
 refine wp_region_below (by kernel_rfl) (by kernel_rfl) ?_
 repeat (go_big_quiet_step (fail))
 refine wpQuiet_nil ?_
 intro w2 hb2
 have S2 := Lib.hid (S1.out.bel hb2)
 clear hb2 S1
 clear hx hf hz hr hp hcl hpc hxx hfx hzx
 obtain ⟨hx, hf, hz, hr, hp, hcl, hpc⟩ := (S2.out.box (k := 0) rfl).act14
 obtain ⟨Ax, cx, hBx, -, -⟩ := S2.out.gridRd (k := 2) rfl
 obtain ⟨hxx, hfx, hzx⟩ := hBx.facts
 clear hBx
 go_wp2_with fail
 have d3 : decide (ca < (0 : Int)) = true := decide_eq_true (by omega)
 refine wp_region_below (by kernel_rfl) (by kernel_rfl) ?_
 repeat (go_big_quiet_step (fail))
 refine wpQuiet_nil ?_
 intro w2 hb2
 have S3 := Lib.hid (S2.out.bel hb2)
 clear hb2 S2
 clear hx hf hz hr hp hcl hpc hxx hfx hzx
 obtain ⟨hx, hf, hz, hr, hp, hcl, hpc⟩ := (S3.out.box (k := 0) rfl).act14
 obtain ⟨Ax, cx, hBx, -, -⟩ := S3.out.gridRd (k := 2) rfl
 obtain ⟨hxx, hfx, hzx⟩ := hBx.facts
 clear hBx
 go_wp2_with fail
 have hcon := ClearN q HT.out S3.out (k := 1) rfl hc hcm (row := ↑row) (f := ca) (t := cb) (by rw [HE.out]; decide)
 rw [HE.out] at hcon
 refine hcon.mono ?_
 rintro e w3 ⟨rfl, hS⟩
 have S4 := Lib.hid hS
 clear hS hcon S3
 clear hx hf hz hr hp hcl hpc hxx hfx hzx
 obtain ⟨hx, hf, hz, hr, hp, hcl, hpc⟩ := (S4.out.box (k := 0) rfl).act14
 obtain ⟨Ax, cx, hBx, -, -⟩ := S4.out.gridRd (k := 2) rfl
 obtain ⟨hxx, hfx, hzx⟩ := hBx.facts
 clear hBx
 go_wp2_with fail
 go_ret
 exact ⟨rfl, by rw [HN.out]; exact S4.out.tail⟩
set_option maxRecDepth 100000 in
set_option maxHeartbeats 8000000 in
theorem does_clr_b (row : Nat) (h0 : row < L.length) (ca cb n : Int) (y : Cell) (A : Option Addr) (c : Nat) (cs : List Cell) (soft : Bool) (q : Pen) (hT : Tabs w0) (hS : Objs w0 w (.grid p 58 cols L :: .grid x 33 cols L :: os)) (hc : 0 < cols) (hcm : cols ≤ 1000) (hR : Rect cols L) (hL : 0 < L.length) (hLm : L.length ≤ 1000) (hA : RdC w0 A c cs) (hlc : cs.length ≤ 100000) (ia : -9223372036854775808 ≤ ca ∧ ca ≤ 9223372036854775807) (ib : -9223372036854775808 ≤ cb ∧ cb ≤ 9223372036854775807) (i_n : -9223372036854775808 ≤ n ∧ n ≤ 9223372036854775807) (h1 : 0 ≤ ca) (h2 : cb < ca) :
  Calls Tryd.prog 43 #[.pointer (some ⟨p, 0, none⟩), .pointer (some ⟨x, 0, none⟩), .agg (av14 ⟨1, ↑row, ca, cb, n, y, A, c, cs, soft, q⟩)] w fun e w' => e = .returned (.bool true) ∧ Objs w0 w' (.grid p 58 cols (act14N ⟨1, ↑row, ca, cb, n, y, A, c, cs, soft, q⟩ cols L) :: .grid x 33 cols (act14N ⟨1, ↑row, ca, cb, n, y, A, c, cs, soft, q⟩ cols L) :: os) := by
 have HT := Lib.hid hT
 have S0 := Lib.hid hS
 have HR := Lib.hid hR
 have HA := Lib.hid hA
 have HM := Lib.hid (hR.mill hcm)
 have hlm2 : L.length ≤ 100000 := by omega
 have hlm3 : L.length ≤ 1000000 := by omega
 have HIA := Lib.hid ia
 have HIB := Lib.hid ib
 have HIN := Lib.hid i_n
 clear hT hS hR hA ia ib i_n
 have HE := Lib.hid (show clrE ↑row ca cb q cols L.length = 3 by have hh : here14 (row : Int) L.length = true := decide_eq_true (by omega); unfold clrE; rw [if_pos (fun h => by have := h.2; omega)])
 have HN := Lib.hid (show act14N ⟨1, ↑row, ca, cb, n, y, A, c, cs, soft, q⟩ cols L = L by simp [act14N, HE.out])
 go_enter Tryd.func43, Tryd.ntmps43
 go_upto_region 1 with (fail)
 refine at_objsC S0.out.alloc1 (fun W hW => ?_)
 generalize w.heap.size = b5 at hW ⊢
 have S1 := Lib.hid hW
 clear hW S0
 obtain ⟨hx, hf, hz, hr, hp, hcl, hpc⟩ := (S1.out.box (k := 0) rfl).act14
 obtain ⟨Ax, cx, hBx, -, -⟩ := S1.out.gridRd (k := 2) rfl
 obtain ⟨hxx, hfx, hzx⟩ := hBx.facts
 clear hBx
 have d1 : decide ((0 : Int) ≤ (row : Int)) = true := decide_eq_true (by omega)
 have d2 : decide ((row : Int) < (L.length : Int)) = true := decide_eq_true (by omega)
 refine wp_region_below (by kernel_rfl) (by kernel_rfl) ?_
 repeat (go_big_quiet_step (fail))
 refine wpQuiet_nil ?_
 intro w2 hb2
 have S2 := Lib.hid (S1.out.bel hb2)
 clear hb2 S1
 clear hx hf hz hr hp hcl hpc hxx hfx hzx
 obtain ⟨hx, hf, hz, hr, hp, hcl, hpc⟩ := (S2.out.box (k := 0) rfl).act14
 obtain ⟨Ax, cx, hBx, -, -⟩ := S2.out.gridRd (k := 2) rfl
 obtain ⟨hxx, hfx, hzx⟩ := hBx.facts
 clear hBx
 go_wp2_with fail
 have d3 : decide (ca < (0 : Int)) = false := decide_eq_false (by omega)
 have d4 : decide (cb < ca) = true := decide_eq_true (by omega)
 refine wp_region_below (by kernel_rfl) (by kernel_rfl) ?_
 repeat (go_big_quiet_step (fail))
 refine wpQuiet_nil ?_
 intro w2 hb2
 have S3 := Lib.hid (S2.out.bel hb2)
 clear hb2 S2
 clear hx hf hz hr hp hcl hpc hxx hfx hzx
 obtain ⟨hx, hf, hz, hr, hp, hcl, hpc⟩ := (S3.out.box (k := 0) rfl).act14
 obtain ⟨Ax, cx, hBx, -, -⟩ := S3.out.gridRd (k := 2) rfl
 obtain ⟨hxx, hfx, hzx⟩ := hBx.facts
 clear hBx
 go_wp2_with fail
 have hcon := ClearN q HT.out S3.out (k := 1) rfl hc hcm (row := ↑row) (f := ca) (t := cb) (by rw [HE.out]; decide)
 rw [HE.out] at hcon
 refine hcon.mono ?_
 rintro e w3 ⟨rfl, hS⟩
 have S4 := Lib.hid hS
 clear hS hcon S3
 clear hx hf hz hr hp hcl hpc hxx hfx hzx
 obtain ⟨hx, hf, hz, hr, hp, hcl, hpc⟩ := (S4.out.box (k := 0) rfl).act14
 obtain ⟨Ax, cx, hBx, -, -⟩ := S4.out.gridRd (k := 2) rfl
 obtain ⟨hxx, hfx, hzx⟩ := hBx.facts
 clear hBx
 go_wp2_with fail
 go_ret
 exact ⟨rfl, by rw [HN.out]; exact S4.out.tail⟩
set_option maxRecDepth 100000 in
set_option maxHeartbeats 8000000 in
theorem does_clr_c (row : Nat) (h0 : row < L.length) (ca cb n : Int) (y : Cell) (A : Option Addr) (c : Nat) (cs : List Cell) (soft : Bool) (q : Pen) (hT : Tabs w0) (hS : Objs w0 w (.grid p 58 cols L :: .grid x 33 cols L :: os)) (hc : 0 < cols) (hcm : cols ≤ 1000) (hR : Rect cols L) (hL : 0 < L.length) (hLm : L.length ≤ 1000) (hA : RdC w0 A c cs) (hlc : cs.length ≤ 100000) (ia : -9223372036854775808 ≤ ca ∧ ca ≤ 9223372036854775807) (ib : -9223372036854775808 ≤ cb ∧ cb ≤ 9223372036854775807) (i_n : -9223372036854775808 ≤ n ∧ n ≤ 9223372036854775807) (h1 : 0 ≤ ca) (h2 : ca ≤ cb) (h3 : (cols : Int) < cb) :
  Calls Tryd.prog 43 #[.pointer (some ⟨p, 0, none⟩), .pointer (some ⟨x, 0, none⟩), .agg (av14 ⟨1, ↑row, ca, cb, n, y, A, c, cs, soft, q⟩)] w fun e w' => e = .returned (.bool true) ∧ Objs w0 w' (.grid p 58 cols (act14N ⟨1, ↑row, ca, cb, n, y, A, c, cs, soft, q⟩ cols L) :: .grid x 33 cols (act14N ⟨1, ↑row, ca, cb, n, y, A, c, cs, soft, q⟩ cols L) :: os) := by
 have HT := Lib.hid hT
 have S0 := Lib.hid hS
 have HR := Lib.hid hR
 have HA := Lib.hid hA
 have HM := Lib.hid (hR.mill hcm)
 have hlm2 : L.length ≤ 100000 := by omega
 have hlm3 : L.length ≤ 1000000 := by omega
 have HIA := Lib.hid ia
 have HIB := Lib.hid ib
 have HIN := Lib.hid i_n
 clear hT hS hR hA ia ib i_n
 have HE := Lib.hid (show clrE ↑row ca cb q cols L.length = 3 by have hh : here14 (row : Int) L.length = true := decide_eq_true (by omega); unfold clrE; rw [if_pos (fun h => by have := h.2; omega)])
 have HN := Lib.hid (show act14N ⟨1, ↑row, ca, cb, n, y, A, c, cs, soft, q⟩ cols L = L by simp [act14N, HE.out])
 go_enter Tryd.func43, Tryd.ntmps43
 go_upto_region 1 with (fail)
 refine at_objsC S0.out.alloc1 (fun W hW => ?_)
 generalize w.heap.size = b5 at hW ⊢
 have S1 := Lib.hid hW
 clear hW S0
 obtain ⟨hx, hf, hz, hr, hp, hcl, hpc⟩ := (S1.out.box (k := 0) rfl).act14
 obtain ⟨Ax, cx, hBx, -, -⟩ := S1.out.gridRd (k := 2) rfl
 obtain ⟨hxx, hfx, hzx⟩ := hBx.facts
 clear hBx
 have d1 : decide ((0 : Int) ≤ (row : Int)) = true := decide_eq_true (by omega)
 have d2 : decide ((row : Int) < (L.length : Int)) = true := decide_eq_true (by omega)
 refine wp_region_below (by kernel_rfl) (by kernel_rfl) ?_
 repeat (go_big_quiet_step (fail))
 refine wpQuiet_nil ?_
 intro w2 hb2
 have S2 := Lib.hid (S1.out.bel hb2)
 clear hb2 S1
 clear hx hf hz hr hp hcl hpc hxx hfx hzx
 obtain ⟨hx, hf, hz, hr, hp, hcl, hpc⟩ := (S2.out.box (k := 0) rfl).act14
 obtain ⟨Ax, cx, hBx, -, -⟩ := S2.out.gridRd (k := 2) rfl
 obtain ⟨hxx, hfx, hzx⟩ := hBx.facts
 clear hBx
 go_wp2_with fail
 have d3 : decide (ca < (0 : Int)) = false := decide_eq_false (by omega)
 have d4 : decide (cb < ca) = false := decide_eq_false (by omega)
 have d5 : decide ((cols : Int) < cb) = true := decide_eq_true (by omega)
 refine wp_region_below (by kernel_rfl) (by kernel_rfl) ?_
 repeat (go_big_quiet_step (fail))
 refine wpQuiet_nil ?_
 intro w2 hb2
 have S3 := Lib.hid (S2.out.bel hb2)
 clear hb2 S2
 clear hx hf hz hr hp hcl hpc hxx hfx hzx
 obtain ⟨hx, hf, hz, hr, hp, hcl, hpc⟩ := (S3.out.box (k := 0) rfl).act14
 obtain ⟨Ax, cx, hBx, -, -⟩ := S3.out.gridRd (k := 2) rfl
 obtain ⟨hxx, hfx, hzx⟩ := hBx.facts
 clear hBx
 go_wp2_with fail
 have hcon := ClearN q HT.out S3.out (k := 1) rfl hc hcm (row := ↑row) (f := ca) (t := cb) (by rw [HE.out]; decide)
 rw [HE.out] at hcon
 refine hcon.mono ?_
 rintro e w3 ⟨rfl, hS⟩
 have S4 := Lib.hid hS
 clear hS hcon S3
 clear hx hf hz hr hp hcl hpc hxx hfx hzx
 obtain ⟨hx, hf, hz, hr, hp, hcl, hpc⟩ := (S4.out.box (k := 0) rfl).act14
 obtain ⟨Ax, cx, hBx, -, -⟩ := S4.out.gridRd (k := 2) rfl
 obtain ⟨hxx, hfx, hzx⟩ := hBx.facts
 clear hBx
 go_wp2_with fail
 go_ret
 exact ⟨rfl, by rw [HN.out]; exact S4.out.tail⟩
set_option maxRecDepth 100000 in
set_option maxHeartbeats 8000000 in
theorem does_clr_pen (row : Nat) (h0 : row < L.length) (ca cb n : Int) (y : Cell) (A : Option Addr) (c : Nat) (cs : List Cell) (soft : Bool) (q : Pen) (hT : Tabs w0) (hS : Objs w0 w (.grid p 58 cols L :: .grid x 33 cols L :: os)) (hc : 0 < cols) (hcm : cols ≤ 1000) (hR : Rect cols L) (hL : 0 < L.length) (hLm : L.length ≤ 1000) (hA : RdC w0 A c cs) (hlc : cs.length ≤ 100000) (ia : -9223372036854775808 ≤ ca ∧ ca ≤ 9223372036854775807) (ib : -9223372036854775808 ≤ cb ∧ cb ≤ 9223372036854775807) (i_n : -9223372036854775808 ≤ n ∧ n ≤ 9223372036854775807) (h1 : 0 ≤ ca) (h2 : ca ≤ cb) (h3 : cb ≤ (cols : Int)) (hq : q.ok = false) :
  Calls Tryd.prog 43 #[.pointer (some ⟨p, 0, none⟩), .pointer (some ⟨x, 0, none⟩), .agg (av14 ⟨1, ↑row, ca, cb, n, y, A, c, cs, soft, q⟩)] w fun e w' => e = .returned (.bool true) ∧ Objs w0 w' (.grid p 58 cols (act14N ⟨1, ↑row, ca, cb, n, y, A, c, cs, soft, q⟩ cols L) :: .grid x 33 cols (act14N ⟨1, ↑row, ca, cb, n, y, A, c, cs, soft, q⟩ cols L) :: os) := by
 have HT := Lib.hid hT
 have S0 := Lib.hid hS
 have HR := Lib.hid hR
 have HA := Lib.hid hA
 have HM := Lib.hid (hR.mill hcm)
 have hlm2 : L.length ≤ 100000 := by omega
 have hlm3 : L.length ≤ 1000000 := by omega
 have HIA := Lib.hid ia
 have HIB := Lib.hid ib
 have HIN := Lib.hid i_n
 clear hT hS hR hA ia ib i_n
 have HE := Lib.hid (show clrE ↑row ca cb q cols L.length = 2 by have hh : here14 (row : Int) L.length = true := decide_eq_true (by omega); unfold clrE; rw [if_neg (fun h => h ⟨hh, by omega, by omega, by omega⟩), if_pos (by rw [hq]; decide)])
 have HN := Lib.hid (show act14N ⟨1, ↑row, ca, cb, n, y, A, c, cs, soft, q⟩ cols L = L by simp [act14N, HE.out])
 have HQ := Lib.hid hq
 clear hq
 go_enter Tryd.func43, Tryd.ntmps43
 go_upto_region 1 with (fail)
 refine at_objsC S0.out.alloc1 (fun W hW => ?_)
 generalize w.heap.size = b5 at hW ⊢
 have S1 := Lib.hid hW
 clear hW S0
 obtain ⟨hx, hf, hz, hr, hp, hcl, hpc⟩ := (S1.out.box (k := 0) rfl).act14
 obtain ⟨Ax, cx, hBx, -, -⟩ := S1.out.gridRd (k := 2) rfl
 obtain ⟨hxx, hfx, hzx⟩ := hBx.facts
 clear hBx
 have d1 : decide ((0 : Int) ≤ (row : Int)) = true := decide_eq_true (by omega)
 have d2 : decide ((row : Int) < (L.length : Int)) = true := decide_eq_true (by omega)
 refine wp_region_below (by kernel_rfl) (by kernel_rfl) ?_
 repeat (go_big_quiet_step (fail))
 refine wpQuiet_nil ?_
 intro w2 hb2
 have S2 := Lib.hid (S1.out.bel hb2)
 clear hb2 S1
 clear hx hf hz hr hp hcl hpc hxx hfx hzx
 obtain ⟨hx, hf, hz, hr, hp, hcl, hpc⟩ := (S2.out.box (k := 0) rfl).act14
 obtain ⟨Ax, cx, hBx, -, -⟩ := S2.out.gridRd (k := 2) rfl
 obtain ⟨hxx, hfx, hzx⟩ := hBx.facts
 clear hBx
 go_wp2_with fail
 have d3 : decide (ca < (0 : Int)) = false := decide_eq_false (by omega)
 have d4 : decide (cb < ca) = false := decide_eq_false (by omega)
 have d5 : decide ((cols : Int) < cb) = false := decide_eq_false (by omega)
 refine wp_region_below (by kernel_rfl) (by kernel_rfl) ?_
 repeat (go_big_quiet_step (fail))
 refine wpQuiet_nil ?_
 intro w2 hb2
 have S3 := Lib.hid (S2.out.bel hb2)
 clear hb2 S2
 clear hx hf hz hr hp hcl hpc hxx hfx hzx
 obtain ⟨hx, hf, hz, hr, hp, hcl, hpc⟩ := (S3.out.box (k := 0) rfl).act14
 obtain ⟨Ax, cx, hBx, -, -⟩ := S3.out.gridRd (k := 2) rfl
 obtain ⟨hxx, hfx, hzx⟩ := hBx.facts
 clear hBx
 go_wp2_with fail
 have hcon := l14inked_any q HT.out S3.out
 rw [HQ.out] at hcon
 refine hcon.mono ?_
 rintro e w3 ⟨rfl, hS⟩
 have S4 := Lib.hid hS
 clear hS hcon S3
 clear hx hf hz hr hp hcl hpc hxx hfx hzx
 obtain ⟨hx, hf, hz, hr, hp, hcl, hpc⟩ := (S4.out.box (k := 0) rfl).act14
 obtain ⟨Ax, cx, hBx, -, -⟩ := S4.out.gridRd (k := 2) rfl
 obtain ⟨hxx, hfx, hzx⟩ := hBx.facts
 clear hBx
 go_wp2_with fail
 have hcon := ClearN q HT.out S4.out (k := 1) rfl hc hcm (row := ↑row) (f := ca) (t := cb) (by rw [HE.out]; decide)
 rw [HE.out] at hcon
 refine hcon.mono ?_
 rintro e w3 ⟨rfl, hS⟩
 have S5 := Lib.hid hS
 clear hS hcon S4
 clear hx hf hz hr hp hcl hpc hxx hfx hzx
 obtain ⟨hx, hf, hz, hr, hp, hcl, hpc⟩ := (S5.out.box (k := 0) rfl).act14
 obtain ⟨Ax, cx, hBx, -, -⟩ := S5.out.gridRd (k := 2) rfl
 obtain ⟨hxx, hfx, hzx⟩ := hBx.facts
 clear hBx
 go_wp2_with fail
 go_ret
 exact ⟨rfl, by rw [HN.out]; exact S5.out.tail⟩
set_option maxRecDepth 100000 in
set_option maxHeartbeats 8000000 in
theorem does_clr_ok (row : Nat) (h0 : row < L.length) (n : Int) (y : Cell) (A : Option Addr) (c : Nat) (cs : List Cell) (soft : Bool) (q : Pen) (hT : Tabs w0) (hS : Objs w0 w (.grid p 58 cols L :: .grid x 33 cols L :: os)) (hc : 0 < cols) (hcm : cols ≤ 1000) (hR : Rect cols L) (hL : 0 < L.length) (hLm : L.length ≤ 1000) (hA : RdC w0 A c cs) (hlc : cs.length ≤ 100000) (i_n : -9223372036854775808 ≤ n ∧ n ≤ 9223372036854775807) (f t : Nat) (hft : f ≤ t) (ht : t ≤ cols) (hq : q.ok = true) :
  Calls Tryd.prog 43 #[.pointer (some ⟨p, 0, none⟩), .pointer (some ⟨x, 0, none⟩), .agg (av14 ⟨1, ↑row, ↑f, ↑t, n, y, A, c, cs, soft, q⟩)] w fun e w' => e = .returned (.bool true) ∧ Objs w0 w' (.grid p 58 cols (act14N ⟨1, ↑row, ↑f, ↑t, n, y, A, c, cs, soft, q⟩ cols L) :: .grid x 33 cols (act14N ⟨1, ↑row, ↑f, ↑t, n, y, A, c, cs, soft, q⟩ cols L) :: os) := by
 have HT := Lib.hid hT
 have S0 := Lib.hid hS
 have HR := Lib.hid hR
 have HA := Lib.hid hA
 have HM := Lib.hid (hR.mill hcm)
 have hlm2 : L.length ≤ 100000 := by omega
 have hlm3 : L.length ≤ 1000000 := by omega
 have HIN := Lib.hid i_n
 clear hT hS hR hA i_n
 have HE := Lib.hid (show clrE ↑row ↑f ↑t q cols L.length = 0 by have hh : here14 (row : Int) L.length = true := decide_eq_true (by omega); unfold clrE; rw [if_neg (fun h => h ⟨hh, by omega, by omega, by omega⟩), if_neg (fun h => h hq)])
 have HN := Lib.hid (show act14N ⟨1, ↑row, ↑f, ↑t, n, y, A, c, cs, soft, q⟩ cols L = rowMod row (clearC f t q) L by simp [act14N, HE.out])
 have HQ := Lib.hid hq
 clear hq
 go_enter Tryd.func43, Tryd.ntmps43
 go_upto_region 1 with (fail)
 refine at_objsC S0.out.alloc1 (fun W hW => ?_)
 generalize w.heap.size = b5 at hW ⊢
 have S1 := Lib.hid hW
 clear hW S0
 obtain ⟨hx, hf, hz, hr, hp, hcl, hpc⟩ := (S1.out.box (k := 0) rfl).act14
 obtain ⟨Ax, cx, hBx, -, -⟩ := S1.out.gridRd (k := 2) rfl
 obtain ⟨hxx, hfx, hzx⟩ := hBx.facts
 clear hBx
 have d1 : decide ((0 : Int) ≤ (row : Int)) = true := decide_eq_true (by omega)
 have d2 : decide ((row : Int) < (L.length : Int)) = true := decide_eq_true (by omega)
 refine wp_region_below (by kernel_rfl) (by kernel_rfl) ?_
 repeat (go_big_quiet_step (fail))
 refine wpQuiet_nil ?_
 intro w2 hb2
 have S2 := Lib.hid (S1.out.bel hb2)
 clear hb2 S1
 clear hx hf hz hr hp hcl hpc hxx hfx hzx
 obtain ⟨hx, hf, hz, hr, hp, hcl, hpc⟩ := (S2.out.box (k := 0) rfl).act14
 obtain ⟨Ax, cx, hBx, -, -⟩ := S2.out.gridRd (k := 2) rfl
 obtain ⟨hxx, hfx, hzx⟩ := hBx.facts
 clear hBx
 go_wp2_with fail
 have d3 : decide ((f : Int) < (0 : Int)) = false := decide_eq_false (by omega)
 have d4 : decide ((t : Int) < (f : Int)) = false := decide_eq_false (by omega)
 have d4n : decide ((t) < (f)) = false := decide_eq_false (by omega)
 have d5 : decide ((cols : Int) < (t : Int)) = false := decide_eq_false (by omega)
 have d5n : decide ((cols) < (t)) = false := decide_eq_false (by omega)
 refine wp_region_below (by kernel_rfl) (by kernel_rfl) ?_
 repeat (go_big_quiet_step (fail))
 refine wpQuiet_nil ?_
 intro w2 hb2
 have S3 := Lib.hid (S2.out.bel hb2)
 clear hb2 S2
 clear hx hf hz hr hp hcl hpc hxx hfx hzx
 obtain ⟨hx, hf, hz, hr, hp, hcl, hpc⟩ := (S3.out.box (k := 0) rfl).act14
 obtain ⟨Ax, cx, hBx, -, -⟩ := S3.out.gridRd (k := 2) rfl
 obtain ⟨hxx, hfx, hzx⟩ := hBx.facts
 clear hBx
 go_wp2_with fail
 have hcon := l14inked_any q HT.out S3.out
 rw [HQ.out] at hcon
 refine hcon.mono ?_
 rintro e w3 ⟨rfl, hS⟩
 have S4 := Lib.hid hS
 clear hS hcon S3
 clear hx hf hz hr hp hcl hpc hxx hfx hzx
 obtain ⟨hx, hf, hz, hr, hp, hcl, hpc⟩ := (S4.out.box (k := 0) rfl).act14
 obtain ⟨Ax, cx, hBx, -, -⟩ := S4.out.gridRd (k := 2) rfl
 obtain ⟨hxx, hfx, hzx⟩ := hBx.facts
 clear hBx
 go_wp2_with fail
 have hcon := r14ClearG q S4.out (k := 2) rfl hc hcm HR.out h0 ht (f := f)
 refine hcon.mono ?_
 rintro e w3 ⟨rfl, hS⟩
 have S5 := Lib.hid hS
 clear hS hcon S4
 clear hx hf hz hr hp hcl hpc hxx hfx hzx
 obtain ⟨hx, hf, hz, hr, hp, hcl, hpc⟩ := (S5.out.box (k := 0) rfl).act14
 obtain ⟨Ax, cx, hBx, -, -⟩ := S5.out.gridRd (k := 2) rfl
 obtain ⟨hxx, hfx, hzx⟩ := hBx.facts
 clear hBx
 go_wp2_with fail
 have hcon := ClearG q HT.out S5.out (k := 1) rfl hc hcm HR.out h0 HQ.out hft ht
 refine hcon.mono ?_
 rintro e w3 ⟨rfl, hS⟩
 have S6 := Lib.hid hS
 clear hS hcon S5
 clear hx hf hz hr hp hcl hpc hxx hfx hzx
 obtain ⟨hx, hf, hz, hr, hp, hcl, hpc⟩ := (S6.out.box (k := 0) rfl).act14
 obtain ⟨Ax, cx, hBx, -, -⟩ := S6.out.gridRd (k := 2) rfl
 obtain ⟨hxx, hfx, hzx⟩ := hBx.facts
 clear hBx
 go_wp2_with fail
 go_ret
 exact ⟨rfl, by rw [HN.out]; exact S6.out.tail⟩
set_option maxRecDepth 100000 in
set_option maxHeartbeats 8000000 in
theorem does_shf_a (row : Nat) (h0 : row < L.length) (ca cb n : Int) (y : Cell) (A : Option Addr) (c : Nat) (cs : List Cell) (soft : Bool) (q : Pen) (hT : Tabs w0) (hS : Objs w0 w (.grid p 58 cols L :: .grid x 33 cols L :: os)) (hc : 0 < cols) (hcm : cols ≤ 1000) (hR : Rect cols L) (hL : 0 < L.length) (hLm : L.length ≤ 1000) (hA : RdC w0 A c cs) (hlc : cs.length ≤ 100000) (ia : -9223372036854775808 ≤ ca ∧ ca ≤ 9223372036854775807) (ib : -9223372036854775808 ≤ cb ∧ cb ≤ 9223372036854775807) (i_n : -9223372036854775808 ≤ n ∧ n ≤ 9223372036854775807) (h1 : ca < 0) :
  Calls Tryd.prog 43 #[.pointer (some ⟨p, 0, none⟩), .pointer (some ⟨x, 0, none⟩), .agg (av14 ⟨2, ↑row, ca, cb, n, y, A, c, cs, soft, q⟩)] w fun e w' => e = .returned (.bool true) ∧ Objs w0 w' (.grid p 58 cols (act14N ⟨2, ↑row, ca, cb, n, y, A, c, cs, soft, q⟩ cols L) :: .grid x 33 cols (act14N ⟨2, ↑row, ca, cb, n, y, A, c, cs, soft, q⟩ cols L) :: os) := by
 have HT := Lib.hid hT
 have S0 := Lib.hid hS
 have HR := Lib.hid hR
 have HA := Lib.hid hA
 have HM := Lib.hid (hR.mill hcm)
 have hlm2 : L.length ≤ 100000 := by omega
 have hlm3 : L.length ≤ 1000000 := by omega
 have HIA := Lib.hid ia
 have HIB := Lib.hid ib
 have HIN := Lib.hid i_n
 clear hT hS hR hA ia ib i_n
 have HE := Lib.hid (show shfE ↑row ca q cols L.length = 3 by have hh : here14 (row : Int) L.length = true := decide_eq_true (by omega); unfold shfE; rw [if_pos (fun h => by have := h.2; omega)])
 have HN := Lib.hid (show act14N ⟨2, ↑row, ca, cb, n, y, A, c, cs, soft, q⟩ cols L = L by simp [act14N, HE.out])
 go_enter Tryd.func43, Tryd.ntmps43
 go_upto_region 1 with (fail)
 refine at_objsC S0.out.alloc1 (fun W hW => ?_)
 generalize w.heap.size = b5 at hW ⊢
 have S1 := Lib.hid hW
 clear hW S0
 obtain ⟨hx, hf, hz, hr, hp, hcl, hpc⟩ := (S1.out.box (k := 0) rfl).act14
 obtain ⟨Ax, cx, hBx, -, -⟩ := S1.out.gridRd (k := 2) rfl
 obtain ⟨hxx, hfx, hzx⟩ := hBx.facts
 clear hBx
 have d1 : decide ((0 : Int) ≤ (row : Int)) = true := decide_eq_true (by omega)
 have d2 : decide ((row : Int) < (L.length : Int)) = true := decide_eq_true (by omega)
 refine wp_region_below (by kernel_rfl) (by kernel_rfl) ?_
 repeat (go_big_quiet_step (fail))
 refine wpQuiet_nil ?_
 intro w2 hb2
 have S2 := Lib.hid (S1.out.bel hb2)
 clear hb2 S1
 clear hx hf hz hr hp hcl hpc hxx hfx hzx
 obtain ⟨hx, hf, hz, hr, hp, hcl, hpc⟩ := (S2.out.box (k := 0) rfl).act14
 obtain ⟨Ax, cx, hBx, -, -⟩ := S2.out.gridRd (k := 2) rfl
 obtain ⟨hxx, hfx, hzx⟩ := hBx.facts
 clear hBx
 go_wp2_with fail
 have d3 : decide (ca < (0 : Int)) = true := decide_eq_true (by omega)
 refine wp_region_below (by kernel_rfl) (by kernel_rfl) ?_
 repeat (go_big_quiet_step (fail))
 refine wpQuiet_nil ?_
 intro w2 hb2
 have S3 := Lib.hid (S2.out.bel hb2)
 clear hb2 S2
 clear hx hf hz hr hp hcl hpc hxx hfx hzx
 obtain ⟨hx, hf, hz, hr, hp, hcl, hpc⟩ := (S3.out.box (k := 0) rfl).act14
 obtain ⟨Ax, cx, hBx, -, -⟩ := S3.out.gridRd (k := 2) rfl
 obtain ⟨hxx, hfx, hzx⟩ := hBx.facts
 clear hBx
 go_wp2_with fail
 have hcon := ShiftN q HT.out S3.out (k := 1) rfl hc hcm (row := ↑row) (col := ca) (n := cb) (by rw [HE.out]; decide)
 rw [HE.out] at hcon
 refine hcon.mono ?_
 rintro e w3 ⟨rfl, hS⟩
 have S4 := Lib.hid hS
 clear hS hcon S3
 clear hx hf hz hr hp hcl hpc hxx hfx hzx
 obtain ⟨hx, hf, hz, hr, hp, hcl, hpc⟩ := (S4.out.box (k := 0) rfl).act14
 obtain ⟨Ax, cx, hBx, -, -⟩ := S4.out.gridRd (k := 2) rfl
 obtain ⟨hxx, hfx, hzx⟩ := hBx.facts
 clear hBx
 go_wp2_with fail
 go_ret
 exact ⟨rfl, by rw [HN.out]; exact S4.out.tail⟩
set_option maxRecDepth 100000 in
set_option maxHeartbeats 8000000 in
theorem does_shf_b (row : Nat) (h0 : row < L.length) (ca cb n : Int) (y : Cell) (A : Option Addr) (c : Nat) (cs : List Cell) (soft : Bool) (q : Pen) (hT : Tabs w0) (hS : Objs w0 w (.grid p 58 cols L :: .grid x 33 cols L :: os)) (hc : 0 < cols) (hcm : cols ≤ 1000) (hR : Rect cols L) (hL : 0 < L.length) (hLm : L.length ≤ 1000) (hA : RdC w0 A c cs) (hlc : cs.length ≤ 100000) (ia : -9223372036854775808 ≤ ca ∧ ca ≤ 9223372036854775807) (ib : -9223372036854775808 ≤ cb ∧ cb ≤ 9223372036854775807) (i_n : -9223372036854775808 ≤ n ∧ n ≤ 9223372036854775807) (h1 : 0 ≤ ca) (h2 : (cols : Int) ≤ ca) :
  Calls Tryd.prog 43 #[.pointer (some ⟨p, 0, none⟩), .pointer (some ⟨x, 0, none⟩), .agg (av14 ⟨2, ↑row, ca, cb, n, y, A, c, cs, soft, q⟩)] w fun e w' => e = .returned (.bool true) ∧ Objs w0 w' (.grid p 58 cols (act14N ⟨2, ↑row, ca, cb, n, y, A, c, cs, soft, q⟩ cols L) :: .grid x 33 cols (act14N ⟨2, ↑row, ca, cb, n, y, A, c, cs, soft, q⟩ cols L) :: os) := by
 have HT := Lib.hid hT
 have S0 := Lib.hid hS
 have HR := Lib.hid hR
 have HA := Lib.hid hA
 have HM := Lib.hid (hR.mill hcm)
 have hlm2 : L.length ≤ 100000 := by omega
 have hlm3 : L.length ≤ 1000000 := by omega
 have HIA := Lib.hid ia
 have HIB := Lib.hid ib
 have HIN := Lib.hid i_n
 clear hT hS hR hA ia ib i_n
 have HE := Lib.hid (show shfE ↑row ca q cols L.length = 3 by have hh : here14 (row : Int) L.length = true := decide_eq_true (by omega); unfold shfE; rw [if_pos (fun h => by have := h.2; omega)])
 have HN := Lib.hid (show act14N ⟨2, ↑row, ca, cb, n, y, A, c, cs, soft, q⟩ cols L = L by simp [act14N, HE.out])
 go_enter Tryd.func43, Tryd.ntmps43
 go_upto_region 1 with (fail)
 refine at_objsC S0.out.alloc1 (fun W hW => ?_)
 generalize w.heap.size = b5 at hW ⊢
 have S1 := Lib.hid hW
 clear hW S0
 obtain ⟨hx, hf, hz, hr, hp, hcl, hpc⟩ := (S1.out.box (k := 0) rfl).act14
 obtain ⟨Ax, cx, hBx, -, -⟩ := S1.out.gridRd (k := 2) rfl
 obtain ⟨hxx, hfx, hzx⟩ := hBx.facts
 clear hBx
 have d1 : decide ((0 : Int) ≤ (row : Int)) = true := decide_eq_true (by omega)
 have d2 : decide ((row : Int) < (L.length : Int)) = true := decide_eq_true (by omega)
 refine wp_region_below (by kernel_rfl) (by kernel_rfl) ?_
 repeat (go_big_quiet_step (fail))
 refine wpQuiet_nil ?_
 intro w2 hb2
 have S2 := Lib.hid (S1.out.bel hb2)
 clear hb2 S1
 clear hx hf hz hr hp hcl hpc hxx hfx hzx
 obtain ⟨hx, hf, hz, hr, hp, hcl, hpc⟩ := (S2.out.box (k := 0) rfl).act14
 obtain ⟨Ax, cx, hBx, -, -⟩ := S2.out.gridRd (k := 2) rfl
 obtain ⟨hxx, hfx, hzx⟩ := hBx.facts
 clear hBx
 go_wp2_with fail
 have d3 : decide (ca < (0 : Int)) = false := decide_eq_false (by omega)
 have d4 : decide ((cols : Int) ≤ ca) = true := decide_eq_true (by omega)
 refine wp_region_below (by kernel_rfl) (by kernel_rfl) ?_
 repeat (go_big_quiet_step (fail))
 refine wpQuiet_nil ?_
 intro w2 hb2
 have S3 := Lib.hid (S2.out.bel hb2)
 clear hb2 S2
 clear hx hf hz hr hp hcl hpc hxx hfx hzx
 obtain ⟨hx, hf, hz, hr, hp, hcl, hpc⟩ := (S3.out.box (k := 0) rfl).act14
 obtain ⟨Ax, cx, hBx, -, -⟩ := S3.out.gridRd (k := 2) rfl
 obtain ⟨hxx, hfx, hzx⟩ := hBx.facts
 clear hBx
 go_wp2_with fail
 have hcon := ShiftN q HT.out S3.out (k := 1) rfl hc hcm (row := ↑row) (col := ca) (n := cb) (by rw [HE.out]; decide)
 rw [HE.out] at hcon
 refine hcon.mono ?_
 rintro e w3 ⟨rfl, hS⟩
 have S4 := Lib.hid hS
 clear hS hcon S3
 clear hx hf hz hr hp hcl hpc hxx hfx hzx
 obtain ⟨hx, hf, hz, hr, hp, hcl, hpc⟩ := (S4.out.box (k := 0) rfl).act14
 obtain ⟨Ax, cx, hBx, -, -⟩ := S4.out.gridRd (k := 2) rfl
 obtain ⟨hxx, hfx, hzx⟩ := hBx.facts
 clear hBx
 go_wp2_with fail
 go_ret
 exact ⟨rfl, by rw [HN.out]; exact S4.out.tail⟩
set_option maxRecDepth 100000 in
set_option maxHeartbeats 8000000 in
theorem does_shf_pen (row : Nat) (h0 : row < L.length) (ca cb n : Int) (y : Cell) (A : Option Addr) (c : Nat) (cs : List Cell) (soft : Bool) (q : Pen) (hT : Tabs w0) (hS : Objs w0 w (.grid p 58 cols L :: .grid x 33 cols L :: os)) (hc : 0 < cols) (hcm : cols ≤ 1000) (hR : Rect cols L) (hL : 0 < L.length) (hLm : L.length ≤ 1000) (hA : RdC w0 A c cs) (hlc : cs.length ≤ 100000) (ia : -9223372036854775808 ≤ ca ∧ ca ≤ 9223372036854775807) (ib : -9223372036854775808 ≤ cb ∧ cb ≤ 9223372036854775807) (i_n : -9223372036854775808 ≤ n ∧ n ≤ 9223372036854775807) (h1 : 0 ≤ ca) (h2 : ca < (cols : Int)) (hq : q.ok = false) :
  Calls Tryd.prog 43 #[.pointer (some ⟨p, 0, none⟩), .pointer (some ⟨x, 0, none⟩), .agg (av14 ⟨2, ↑row, ca, cb, n, y, A, c, cs, soft, q⟩)] w fun e w' => e = .returned (.bool true) ∧ Objs w0 w' (.grid p 58 cols (act14N ⟨2, ↑row, ca, cb, n, y, A, c, cs, soft, q⟩ cols L) :: .grid x 33 cols (act14N ⟨2, ↑row, ca, cb, n, y, A, c, cs, soft, q⟩ cols L) :: os) := by
 have HT := Lib.hid hT
 have S0 := Lib.hid hS
 have HR := Lib.hid hR
 have HA := Lib.hid hA
 have HM := Lib.hid (hR.mill hcm)
 have hlm2 : L.length ≤ 100000 := by omega
 have hlm3 : L.length ≤ 1000000 := by omega
 have HIA := Lib.hid ia
 have HIB := Lib.hid ib
 have HIN := Lib.hid i_n
 clear hT hS hR hA ia ib i_n
 have HE := Lib.hid (show shfE ↑row ca q cols L.length = 2 by have hh : here14 (row : Int) L.length = true := decide_eq_true (by omega); unfold shfE; rw [if_neg (fun h => h ⟨hh, by omega, by omega⟩), if_pos (by rw [hq]; decide)])
 have HN := Lib.hid (show act14N ⟨2, ↑row, ca, cb, n, y, A, c, cs, soft, q⟩ cols L = L by simp [act14N, HE.out])
 have HQ := Lib.hid hq
 clear hq
 go_enter Tryd.func43, Tryd.ntmps43
 go_upto_region 1 with (fail)
 refine at_objsC S0.out.alloc1 (fun W hW => ?_)
 generalize w.heap.size = b5 at hW ⊢
 have S1 := Lib.hid hW
 clear hW S0
 obtain ⟨hx, hf, hz, hr, hp, hcl, hpc⟩ := (S1.out.box (k := 0) rfl).act14
 obtain ⟨Ax, cx, hBx, -, -⟩ := S1.out.gridRd (k := 2) rfl
 obtain ⟨hxx, hfx, hzx⟩ := hBx.facts
 clear hBx
 have d1 : decide ((0 : Int) ≤ (row : Int)) = true := decide_eq_true (by omega)
 have d2 : decide ((row : Int) < (L.length : Int)) = true := decide_eq_true (by omega)
 refine wp_region_below (by kernel_rfl) (by kernel_rfl) ?_
 repeat (go_big_quiet_step (fail))
 refine wpQuiet_nil ?_
 intro w2 hb2
 have S2 := Lib.hid (S1.out.bel hb2)
 clear hb2 S1
 clear hx hf hz hr hp hcl hpc hxx hfx hzx
 obtain ⟨hx, hf, hz, hr, hp, hcl, hpc⟩ := (S2.out.box (k := 0) rfl).act14
 obtain ⟨Ax, cx, hBx, -, -⟩ := S2.out.gridRd (k := 2) rfl
 obtain ⟨hxx, hfx, hzx⟩ := hBx.facts
 clear hBx
 go_wp2_with fail
 have d3 : decide (ca < (0 : Int)) = false := decide_eq_false (by omega)
 have d4 : decide ((cols : Int) ≤ ca) = false := decide_eq_false (by omega)
 refine wp_region_below (by kernel_rfl) (by kernel_rfl) ?_
 repeat (go_big_quiet_step (fail))
 refine wpQuiet_nil ?_
 intro w2 hb2
 have S3 := Lib.hid (S2.out.bel hb2)
 clear hb2 S2
 clear hx hf hz hr hp hcl hpc hxx hfx hzx
 obtain ⟨hx, hf, hz, hr, hp, hcl, hpc⟩ := (S3.out.box (k := 0) rfl).act14
 obtain ⟨Ax, cx, hBx, -, -⟩ := S3.out.gridRd (k := 2) rfl
 obtain ⟨hxx, hfx, hzx⟩ := hBx.facts
 clear hBx
 go_wp2_with fail
 have hcon := l14inked_any q HT.out S3.out
 rw [HQ.out] at hcon
 refine hcon.mono ?_
 rintro e w3 ⟨rfl, hS⟩
 have S4 := Lib.hid hS
 clear hS hcon S3
 clear hx hf hz hr hp hcl hpc hxx hfx hzx
 obtain ⟨hx, hf, hz, hr, hp, hcl, hpc⟩ := (S4.out.box (k := 0) rfl).act14
 obtain ⟨Ax, cx, hBx, -, -⟩ := S4.out.gridRd (k := 2) rfl
 obtain ⟨hxx, hfx, hzx⟩ := hBx.facts
 clear hBx
 go_wp2_with fail
 have hcon := ShiftN q HT.out S4.out (k := 1) rfl hc hcm (row := ↑row) (col := ca) (n := cb) (by rw [HE.out]; decide)
 rw [HE.out] at hcon
 refine hcon.mono ?_
 rintro e w3 ⟨rfl, hS⟩
 have S5 := Lib.hid hS
 clear hS hcon S4
 clear hx hf hz hr hp hcl hpc hxx hfx hzx
 obtain ⟨hx, hf, hz, hr, hp, hcl, hpc⟩ := (S5.out.box (k := 0) rfl).act14
 obtain ⟨Ax, cx, hBx, -, -⟩ := S5.out.gridRd (k := 2) rfl
 obtain ⟨hxx, hfx, hzx⟩ := hBx.facts
 clear hBx
 go_wp2_with fail
 go_ret
 exact ⟨rfl, by rw [HN.out]; exact S5.out.tail⟩
set_option maxRecDepth 100000 in
set_option maxHeartbeats 8000000 in
theorem does_shf_ok (row : Nat) (h0 : row < L.length) (cb n : Int) (y : Cell) (A : Option Addr) (c : Nat) (cs : List Cell) (soft : Bool) (q : Pen) (hT : Tabs w0) (hS : Objs w0 w (.grid p 58 cols L :: .grid x 33 cols L :: os)) (hc : 0 < cols) (hcm : cols ≤ 1000) (hR : Rect cols L) (hL : 0 < L.length) (hLm : L.length ≤ 1000) (hA : RdC w0 A c cs) (hlc : cs.length ≤ 100000) (ib : -9223372036854775808 ≤ cb ∧ cb ≤ 9223372036854775807) (i_n : -9223372036854775808 ≤ n ∧ n ≤ 9223372036854775807) (j : Nat) (hj : j < cols) (hq : q.ok = true) :
  Calls Tryd.prog 43 #[.pointer (some ⟨p, 0, none⟩), .pointer (some ⟨x, 0, none⟩), .agg (av14 ⟨2, ↑row, ↑j, cb, n, y, A, c, cs, soft, q⟩)] w fun e w' => e = .returned (.bool true) ∧ Objs w0 w' (.grid p 58 cols (act14N ⟨2, ↑row, ↑j, cb, n, y, A, c, cs, soft, q⟩ cols L) :: .grid x 33 cols (act14N ⟨2, ↑row, ↑j, cb, n, y, A, c, cs, soft, q⟩ cols L) :: os) := by
 have HT := Lib.hid hT
 have S0 := Lib.hid hS
 have HR := Lib.hid hR
 have HA := Lib.hid hA
 have HM := Lib.hid (hR.mill hcm)
 have hlm2 : L.length ≤ 100000 := by omega
 have hlm3 : L.length ≤ 1000000 := by omega
 have HIB := Lib.hid ib
 have HIN := Lib.hid i_n
 clear hT hS hR hA ib i_n
 have HE := Lib.hid (show shfE ↑row ↑j q cols L.length = 0 by have hh : here14 (row : Int) L.length = true := decide_eq_true (by omega); unfold shfE; rw [if_neg (fun h => h ⟨hh, by omega, by omega⟩), if_neg (fun h => h hq)])
 have HN := Lib.hid (show act14N ⟨2, ↑row, ↑j, cb, n, y, A, c, cs, soft, q⟩ cols L = rowMod row (shiftN j cols cb q) L by simp [act14N, HE.out])
 have HQ := Lib.hid hq
 clear hq
 go_enter Tryd.func43, Tryd.ntmps43
 go_upto_region 1 with (fail)
 refine at_objsC S0.out.alloc1 (fun W hW => ?_)
 generalize w.heap.size = b5 at hW ⊢
 have S1 := Lib.hid hW
 clear hW S0
 obtain ⟨hx, hf, hz, hr, hp, hcl, hpc⟩ := (S1.out.box (k := 0) rfl).act14
 obtain ⟨Ax, cx, hBx, -, -⟩ := S1.out.gridRd (k := 2) rfl
 obtain ⟨hxx, hfx, hzx⟩ := hBx.facts
 clear hBx
 have d1 : decide ((0 : Int) ≤ (row : Int)) = true := decide_eq_true (by omega)
 have d2 : decide ((row : Int) < (L.length : Int)) = true := decide_eq_true (by omega)
 refine wp_region_below (by kernel_rfl) (by kernel_rfl) ?_
 repeat (go_big_quiet_step (fail))
 refine wpQuiet_nil ?_
 intro w2 hb2
 have S2 := Lib.hid (S1.out.bel hb2)
 clear hb2 S1
 clear hx hf hz hr hp hcl hpc hxx hfx hzx
 obtain ⟨hx, hf, hz, hr, hp, hcl, hpc⟩ := (S2.out.box (k := 0) rfl).act14
 obtain ⟨Ax, cx, hBx, -, -⟩ := S2.out.gridRd (k := 2) rfl
 obtain ⟨hxx, hfx, hzx⟩ := hBx.facts
 clear hBx
 go_wp2_with fail
 have d3 : decide ((j : Int) < (0 : Int)) = false := decide_eq_false (by omega)
 have d4 : decide ((cols : Int) ≤ (j : Int)) = false := decide_eq_false (by omega)
 have d4n : decide ((cols) ≤ (j)) = false := decide_eq_false (by omega)
 refine wp_region_below (by kernel_rfl) (by kernel_rfl) ?_
 repeat (go_big_quiet_step (fail))
 refine wpQuiet_nil ?_
 intro w2 hb2
 have S3 := Lib.hid (S2.out.bel hb2)
 clear hb2 S2
 clear hx hf hz hr hp hcl hpc hxx hfx hzx
 obtain ⟨hx, hf, hz, hr, hp, hcl, hpc⟩ := (S3.out.box (k := 0) rfl).act14
 obtain ⟨Ax, cx, hBx, -, -⟩ := S3.out.gridRd (k := 2) rfl
 obtain ⟨hxx, hfx, hzx⟩ := hBx.facts
 clear hBx
 go_wp2_with fail
 have hcon := l14inked_any q HT.out S3.out
 rw [HQ.out] at hcon
 refine hcon.mono ?_
 rintro e w3 ⟨rfl, hS⟩
 have S4 := Lib.hid hS
 clear hS hcon S3
 clear hx hf hz hr hp hcl hpc hxx hfx hzx
 obtain ⟨hx, hf, hz, hr, hp, hcl, hpc⟩ := (S4.out.box (k := 0) rfl).act14
 obtain ⟨Ax, cx, hBx, -, -⟩ := S4.out.gridRd (k := 2) rfl
 obtain ⟨hxx, hfx, hzx⟩ := hBx.facts
 clear hBx
 go_wp2_with fail
 have hcon := r14ShiftG cb q S4.out (k := 2) rfl hcm HR.out h0 hj HIB.out
 refine hcon.mono ?_
 rintro e w3 ⟨rfl, hS⟩
 have S5 := Lib.hid hS
 clear hS hcon S4
 clear hx hf hz hr hp hcl hpc hxx hfx hzx
 obtain ⟨hx, hf, hz, hr, hp, hcl, hpc⟩ := (S5.out.box (k := 0) rfl).act14
 obtain ⟨Ax, cx, hBx, -, -⟩ := S5.out.gridRd (k := 2) rfl
 obtain ⟨hxx, hfx, hzx⟩ := hBx.facts
 clear hBx
 go_wp2_with fail
 have hcon := ShiftG cb q HT.out S5.out (k := 1) rfl hcm HR.out h0 HQ.out hj HIB.out
 refine hcon.mono ?_
 rintro e w3 ⟨rfl, hS⟩
 have S6 := Lib.hid hS
 clear hS hcon S5
 clear hx hf hz hr hp hcl hpc hxx hfx hzx
 obtain ⟨hx, hf, hz, hr, hp, hcl, hpc⟩ := (S6.out.box (k := 0) rfl).act14
 obtain ⟨Ax, cx, hBx, -, -⟩ := S6.out.gridRd (k := 2) rfl
 obtain ⟨hxx, hfx, hzx⟩ := hBx.facts
 clear hBx
 go_wp2_with fail
 go_ret
 exact ⟨rfl, by rw [HN.out]; exact S6.out.tail⟩
end
end Go.Proofs.YtppijfjigcoifaaDoor

namespace Go.Proofs.YtppijfjigcoifaaDoor
open Go.RowKit

theorem Objs.softAt {w0 w : World} {os : List Ob} {k i : Nat} {v : Value} {L : List Ln} {l : Ln} (hS : Objs w0 w os) (hk : os[k]? = some (.lines v L)) (hl : L[i]? = some l) : ∃ g c, v = .slice (some ⟨g, 0, none⟩) L.length c ∧ g < w.heap.size ∧ w.cell? ⟨g, i * 2 + 1, none⟩ = some (.bool l.2) ∧ ∀ j, w.frozen? ⟨g, j, none⟩ = false := by
 obtain ⟨F, bs, hF, -⟩ := hS.get hk
 obtain ⟨A2, c2, rfl, -, -, -, h4⟩ := hF.form
 obtain ⟨g, rfl, hz, -, hso, hfz⟩ := h4 (by have := (List.getElem?_eq_some_iff.1 hl).1; omega)
 exact ⟨g, c2, rfl, hz, hso i l hl, hfz⟩
section
variable {w0 w : World} {os : List Ob} {p x cols : Nat} {L : List Ln}
set_option maxRecDepth 100000 in
set_option maxHeartbeats 8000000 in
theorem does_soft_out (row : Int) (h0 : row < 0 ∨ (0 ≤ row ∧ (L.length : Int) ≤ row)) (ca cb n : Int) (y : Cell) (A : Option Addr) (c : Nat) (cs : List Cell) (soft : Bool) (q : Pen) (hT : Tabs w0) (hS : Objs w0 w (.grid p 58 cols L :: .grid x 33 cols L :: os)) (hc : 0 < cols) (hcm : cols ≤ 1000) (hR : Rect cols L) (hL : 0 < L.length) (hLm : L.length ≤ 1000) (hA : RdC w0 A c cs) (hlc : cs.length ≤ 100000) (ia : -9223372036854775808 ≤ ca ∧ ca ≤ 9223372036854775807) (ib : -9223372036854775808 ≤ cb ∧ cb ≤ 9223372036854775807) (i_n : -9223372036854775808 ≤ n ∧ n ≤ 9223372036854775807) :
  Calls Tryd.prog 43 #[.pointer (some ⟨p, 0, none⟩), .pointer (some ⟨x, 0, none⟩), .agg (av14 ⟨4, row, ca, cb, n, y, A, c, cs, soft, q⟩)] w fun e w' => e = .returned (.bool true) ∧ Objs w0 w' (.grid p 58 cols (act14N ⟨4, row, ca, cb, n, y, A, c, cs, soft, q⟩ cols L) :: .grid x 33 cols (act14N ⟨4, row, ca, cb, n, y, A, c, cs, soft, q⟩ cols L) :: os) := by
 have HT := Lib.hid hT
 have S0 := Lib.hid hS
 have HR := Lib.hid hR
 have HA := Lib.hid hA
 have HM := Lib.hid (hR.mill hcm)
 have hlm2 : L.length ≤ 100000 := by omega
 have hlm3 : L.length ≤ 1000000 := by omega
 have HIA := Lib.hid ia
 have HIB := Lib.hid ib
 have HIN := Lib.hid i_n
 clear hT hS hR hA ia ib i_n
 rcases h0 with h0 | ⟨h0, h1⟩
 all_goals
  have HE := Lib.hid (show here14 row L.length = false by exact decide_eq_false (by omega))
  have HN := Lib.hid (show act14N ⟨4, row, ca, cb, n, y, A, c, cs, soft, q⟩ cols L = L by simp [act14N, HE.out])
  have HH := HE
  go_enter Tryd.func43, Tryd.ntmps43
  go_upto_region 1 with (fail)
  refine at_objsC S0.out.alloc1 (fun W hW => ?_)
  generalize w.heap.size = b5 at hW ⊢
  have S1 := Lib.hid hW
  clear hW S0
  obtain ⟨hx, hf, hz, hr, hp, hcl, hpc⟩ := (S1.out.box (k := 0) rfl).act14
  obtain ⟨Ax, cx, hBx, -, -⟩ := S1.out.gridRd (k := 2) rfl
  obtain ⟨hxx, hfx, hzx⟩ := hBx.facts
  clear hBx
  first | (have d1 : decide ((0 : Int) ≤ row) = false := decide_eq_false (by omega)) | (have d1 : decide ((0 : Int) ≤ row) = true := decide_eq_true (by omega))
  first | (have d2 : decide (row < (L.length : Int)) = false := decide_eq_false (by omega)) | (have d2 : decide (row < (L.length : Int)) = true := decide_eq_true (by omega))
  refine wp_region_below (by kernel_rfl) (by kernel_rfl) ?_
  repeat (go_big_quiet_step (fail))
  refine wpQuiet_nil ?_
  intro w2 hb2
  have S2 := Lib.hid (S1.out.bel hb2)
  clear hb2 S1
  clear hx hf hz hr hp hcl hpc hxx hfx hzx
  obtain ⟨hx, hf, hz, hr, hp, hcl, hpc⟩ := (S2.out.box (k := 0) rfl).act14
  obtain ⟨Ax, cx, hBx, -, -⟩ := S2.out.gridRd (k := 2) rfl
  obtain ⟨hxx, hfx, hzx⟩ := hBx.facts
  clear hBx
  go_wp2_with fail
  have hcon := SetSoftN (decide (0 < ca)) S2.out (k := 1) rfl hc HH.out (row := row)
  refine hcon.mono ?_
  rintro e w3 ⟨rfl, hS⟩
  have S3 := Lib.hid hS
  clear hS hcon S2
  clear hx hf hz hr hp hcl hpc hxx hfx hzx
  obtain ⟨hx, hf, hz, hr, hp, hcl, hpc⟩ := (S3.out.box (k := 0) rfl).act14
  obtain ⟨Ax, cx, hBx, -, -⟩ := S3.out.gridRd (k := 2) rfl
  obtain ⟨hxx, hfx, hzx⟩ := hBx.facts
  clear hBx
  go_wp2_with fail
  go_ret
  exact ⟨rfl, by rw [HN.out]; exact S3.out.tail⟩
set_option maxRecDepth 100000 in
set_option maxHeartbeats 8000000 in
theorem does_soft_yes (row : Nat) (h0 : row < L.length) (ca cb n : Int) (y : Cell) (A : Option Addr) (c : Nat) (cs : List Cell) (soft : Bool) (q : Pen) (hT : Tabs w0) (hS : Objs w0 w (.grid p 58 cols L :: .grid x 33 cols L :: os)) (hc : 0 < cols) (hcm : cols ≤ 1000) (hR : Rect cols L) (hL : 0 < L.length) (hLm : L.length ≤ 1000) (hA : RdC w0 A c cs) (hlc : cs.length ≤ 100000) (ia : -9223372036854775808 ≤ ca ∧ ca ≤ 9223372036854775807) (ib : -9223372036854775808 ≤ cb ∧ cb ≤ 9223372036854775807) (i_n : -9223372036854775808 ≤ n ∧ n ≤ 9223372036854775807) :
  Calls Tryd.prog 43 #[.pointer (some ⟨p, 0, none⟩), .pointer (some ⟨x, 0, none⟩), .agg (av14 ⟨4, ↑row, ca, cb, n, y, A, c, cs, soft, q⟩)] w fun e w' => e = .returned (.bool true) ∧ Objs w0 w' (.grid p 58 cols (act14N ⟨4, ↑row, ca, cb, n, y, A, c, cs, soft, q⟩ cols L) :: .grid x 33 cols (act14N ⟨4, ↑row, ca, cb, n, y, A, c, cs, soft, q⟩ cols L) :: os) := by
 have HT := Lib.hid hT
 have S0 := Lib.hid hS
 have HR := Lib.hid hR
 have HA := Lib.hid hA
 have HM := Lib.hid (hR.mill hcm)
 have hlm2 : L.length ≤ 100000 := by omega
 have hlm3 : L.length ≤ 1000000 := by omega
 have HIA := Lib.hid ia
 have HIB := Lib.hid ib
 have HIN := Lib.hid i_n
 clear hT hS hR hA ia ib i_n
 have HE := Lib.hid (show here14 (row : Int) L.length = true by exact decide_eq_true (by omega))
 have HN := Lib.hid (show act14N ⟨4, ↑row, ca, cb, n, y, A, c, cs, soft, q⟩ cols L = softMod row (decide (0 < ca)) L by simp [act14N, HE.out])
 go_enter Tryd.func43, Tryd.ntmps43
 go_upto_region 1 with (fail)
 refine at_objsC S0.out.alloc1 (fun W hW => ?_)
 generalize w.heap.size = b5 at hW ⊢
 have S1 := Lib.hid hW
 clear hW S0
 obtain ⟨hx, hf, hz, hr, hp, hcl, hpc⟩ := (S1.out.box (k := 0) rfl).act14
 obtain ⟨Ax, cx, hBx, -, -⟩ := S1.out.gridRd (k := 2) rfl
 obtain ⟨hxx, hfx, hzx⟩ := hBx.facts
 clear hBx
 have d1 : decide ((0 : Int) ≤ (row : Int)) = true := decide_eq_true (by omega)
 have d2 : decide ((row : Int) < (L.length : Int)) = true := decide_eq_true (by omega)
 refine wp_region_below (by kernel_rfl) (by kernel_rfl) ?_
 repeat (go_big_quiet_step (fail))
 refine wpQuiet_nil ?_
 intro w2 hb2
 have S2 := Lib.hid (S1.out.bel hb2)
 clear hb2 S1
 clear hx hf hz hr hp hcl hpc hxx hfx hzx
 obtain ⟨hx, hf, hz, hr, hp, hcl, hpc⟩ := (S2.out.box (k := 0) rfl).act14
 obtain ⟨Ax, cx, hBx, -, -⟩ := S2.out.gridRd (k := 2) rfl
 obtain ⟨hxx, hfx, hzx⟩ := hBx.facts
 clear hBx
 go_wp2_with fail
 clear hx hf hz hr hp hcl hpc hxx hfx hzx
 obtain ⟨l, hl⟩ := get_of h0
 have HL := Lib.hid hl
 clear hl
 refine at_objsC S2.out (fun W hW => ?_)
 obtain ⟨v, hO⟩ := hW.openGrid (k := 2) rfl
 obtain ⟨gx, cx, rfl, -, -, -⟩ := hO.softAt (k := 0) rfl HL.out
 have SO := Lib.hid (show Objs w0 W (.lines (.slice (some ⟨gx, 0, none⟩) L.length cx) L :: .box b5 90 (av14 ⟨4, ↑row, ca, cb, n, y, A, c, cs, soft, q⟩) :: .grid p 58 ↑cols L :: .box x 33 #[.int .i64 ↑cols, .slice (some ⟨gx, 0, none⟩) L.length cx] :: os) from hO)
 have hb0 : (0 : Int) ≤ (row : Int) := by omega
 have hb1 : (row : Int) < (L.length : Int) := by omega
 clear hW hO S2
 refine wp_region_stage (w0 := w0) (os := os) (by kernel_rfl) (by kernel_rfl) (by kernel_rfl) [(0, 11, [], fun vs => .lines (.slice (some ⟨gx, 0, none⟩) L.length cx) (L.set row (l.1, decide (0 < ca))))] [[], [], [], [3], [], [1], [], [1], [], [], [], [0]] [.lines (.slice (some ⟨gx, 0, none⟩) L.length cx) L, .box b5 90 (av14 ⟨4, ↑row, ca, cb, n, y, A, c, cs, soft, q⟩), .grid p 58 ↑cols L, .box x 33 #[.int .i64 ↑cols, .slice (some ⟨gx, 0, none⟩) L.length cx]] (fun opn u => match opn with | 0 => u = pt x 0 | 1 => u = pt x 0 | 2 => u = pt x 1 | 3 => u = .slice (some ⟨gx, 0, none⟩) L.length cx | 4 => u = pt b5 1 | 5 => u = .int .i64 ↑row | 6 => u = pt b5 2 | 7 => u = .int .i64 ca | 8 => u = .bool (decide (0 < ca)) | 9 => u = pt gx (row * 2) | 10 => u = pt gx (row * 2 + 1) | 11 => True | _ => True) (fun vs => [.lines (.slice (some ⟨gx, 0, none⟩) L.length cx) (L.set row (l.1, decide (0 < ca))), .box b5 90 (av14 ⟨4, ↑row, ca, cb, n, y, A, c, cs, soft, q⟩), .grid p 58 ↑cols L, .box x 33 #[.int .i64 ↑cols, .slice (some ⟨gx, 0, none⟩) L.length cx]]) (by kernel_rfl) (fun vs => by rfl) SO.out ?_ ?_
 ·apply sc
  ·intro a w' vs σ hS hl hs hk
   have f1 : a.tmps[1]?.getD undef = .pointer (some ⟨x, 0, none⟩) := sof hk
   exact rp (pt x 0) (by simp [execOp, Act.eval, f1, go_sem]) hl hs hS
  apply sc
  ·intro a w' vs σ hS hl hs hk
   have f269 : a.tmps[269]?.getD undef = .pointer (some ⟨x, 0, none⟩) := sf hk 0
   exact rp (pt x 0) (by simp [execOp, Act.eval, f269, go_sem]) hl hs hS
  apply sc
  ·intro a w' vs σ hS hl hs hk
   have f270 : a.tmps[270]?.getD undef = .pointer (some ⟨x, 0, none⟩) := sf hk 1
   exact rp (pt x 1) (by simp [execOp, Act.eval, f270, go_sem]) hl hs hS
  apply sc
  ·intro a w' vs σ hS hl hs hk
   have f271 : a.tmps[271]?.getD undef = .pointer (some ⟨x, 1, none⟩) := sf hk 2
   have hx := (hS.box (sg (hs 3 (by decide)))).cell
   exact rp (.slice (some ⟨gx, 0, none⟩) L.length cx) (by simp [execOp, Act.eval, f271, go_sem, hx]) hl hs hS
  apply sc
  ·intro a w' vs σ hS hl hs hk
   have f5 : a.tmps[5]?.getD undef = .pointer (some ⟨b5, 0, none⟩) := sof hk
   exact rp (pt b5 1) (by simp [execOp, Act.eval, f5, go_sem]) hl hs hS
  apply sc
  ·intro a w' vs σ hS hl hs hk
   have f273 : a.tmps[273]?.getD undef = .pointer (some ⟨b5, 1, none⟩) := sf hk 4
   have hx := (hS.box (sg (hs 1 (by decide)))).cell
   exact rp (.int .i64 ↑row) (by simp [execOp, Act.eval, f273, go_sem, hx]) hl hs hS
  apply sc
  ·intro a w' vs σ hS hl hs hk
   have f5 : a.tmps[5]?.getD undef = .pointer (some ⟨b5, 0, none⟩) := sof hk
   exact rp (pt b5 2) (by simp [execOp, Act.eval, f5, go_sem]) hl hs hS
  apply sc
  ·intro a w' vs σ hS hl hs hk
   have f275 : a.tmps[275]?.getD undef = .pointer (some ⟨b5, 2, none⟩) := sf hk 6
   have hx := (hS.box (sg (hs 1 (by decide)))).cell
   exact rp (.int .i64 ca) (by simp [execOp, Act.eval, f275, go_sem, hx]) hl hs hS
  apply sc
  ·intro a w' vs σ hS hl hs hk
   have f276 : a.tmps[276]?.getD undef = .int .i64 ca := sf hk 7
   exact rp (.bool (decide (0 < ca))) (by simp [execOp, Act.eval, f276, go_sem]) hl hs hS
  apply sc
  ·intro a w' vs σ hS hl hs hk
   have f272 : a.tmps[272]?.getD undef = .slice (some ⟨gx, 0, none⟩) L.length cx := sf hk 3
   have f274 : a.tmps[274]?.getD undef = .int .i64 ↑row := sf hk 5
   exact rp (pt gx (row * 2)) (by simp [execOp, Act.eval, f272, f274, go_sem, hb0, hb1]) hl hs hS
  apply sc
  ·intro a w' vs σ hS hl hs hk
   have f278 : a.tmps[278]?.getD undef = .pointer (some ⟨gx, row * 2, none⟩) := sf hk 9
   exact rp (pt gx (row * 2 + 1)) (by simp [execOp, Act.eval, f278, go_sem]) hl hs hS
  apply sc
  ·intro a w' vs σ hS hl hs hk
   have f279 : a.tmps[279]?.getD undef = .pointer (some ⟨gx, row * 2 + 1, none⟩) := sf hk 10
   have f277 : a.tmps[277]?.getD undef = .bool (decide (0 < ca)) := sf hk 8
   have h1 : σ[0]? = some (.lines (.slice (some ⟨gx, 0, none⟩) L.length cx) L) := hs 0 (by decide)
   obtain ⟨g', c', e', hz, hc1, hf⟩ := hS.softAt (sg h1) HL.out
   simp only [Value.slice.injEq, Option.some.injEq, Addr.mk.injEq, and_true, true_and] at e'
   obtain ⟨rfl, -⟩ := e'
   exact rstep_store (w2 := w'.setCell ⟨gx, row * 2 + 1, none⟩ (.bool (decide (0 < ca)))) (wanted_none rfl) rfl (by simp [execOp, Act.eval, f279, f277, hf, hz, hc1, go_sem]) (sp_set 0 (.lines (.slice (some ⟨gx, 0, none⟩) L.length cx) (L.set row (l.1, decide (0 < ca)))) (by kernel_rfl) (by simp) (by decide) hl hs (by rfl) (hS.storeSoft (sg h1) HL.out) trivial) trivial
  exact SSteps.nil
 ·intro vs w' hS hv
  have q0 : vs 0 = _ := hv 0 (by decide)
  have q1 : vs 1 = _ := hv 1 (by decide)
  have q2 : vs 2 = _ := hv 2 (by decide)
  have q3 : vs 3 = _ := hv 3 (by decide)
  have q4 : vs 4 = _ := hv 4 (by decide)
  have q5 : vs 5 = _ := hv 5 (by decide)
  have q6 : vs 6 = _ := hv 6 (by decide)
  have q7 : vs 7 = _ := hv 7 (by decide)
  have q8 : vs 8 = _ := hv 8 (by decide)
  have q9 : vs 9 = _ := hv 9 (by decide)
  have q10 : vs 10 = _ := hv 10 (by decide)
  have S2 := Lib.hid hS
  simp only [putL, Act.put, Nat.zero_add, Nat.reduceAdd, List.setIfInBounds_toArray, List.set_cons_succ, List.set_cons_zero, q0, q1, q2, q3, q4, q5, q6, q7, q8, q9, q10]
  clear hS hv q0 q1 q2 q3 q4 q5 q6 q7 q8 q9 q10
  have S99 := Lib.hid (show Objs w0 w' (.box b5 90 (av14 ⟨4, ↑row, ca, cb, n, y, A, c, cs, soft, q⟩) :: .grid p 58 ↑cols L :: .grid x 33 ↑cols (softMod row (decide (0 < ca)) L) :: os) from by rw [softMod_some HL.out]; exact S2.out.closeGrid (k := 2) rfl)
  clear S2 SO
  obtain ⟨hx, hf, hz, hr, hp, hcl, hpc⟩ := (S99.out.box (k := 0) rfl).act14
  obtain ⟨Ax, cx, hBx, -, -⟩ := S99.out.gridRd (k := 2) rfl
  obtain ⟨hxx, hfx, hzx⟩ := hBx.facts
  clear hBx
  go_wp2_with fail
  have hcon := SetSoftG (decide (0 < ca)) S99.out (k := 1) rfl hc h0 hlm3
  refine hcon.mono ?_
  rintro e w3 ⟨rfl, hS⟩
  have S100 := Lib.hid hS
  clear hS hcon S99
  clear hx hf hz hr hp hcl hpc hxx hfx hzx
  obtain ⟨hx, hf, hz, hr, hp, hcl, hpc⟩ := (S100.out.box (k := 0) rfl).act14
  obtain ⟨Ax, cx, hBx, -, -⟩ := S100.out.gridRd (k := 2) rfl
  obtain ⟨hxx, hfx, hzx⟩ := hBx.facts
  clear hBx
  go_wp2_with fail
  go_ret
  exact ⟨rfl, by rw [HN.out]; exact S100.out.tail⟩
set_option maxRecDepth 100000 in
set_option maxHeartbeats 8000000 in
theorem does_copy_any (row : Int) (h0 : row < 0 ∨ (0 ≤ row ∧ (L.length : Int) ≤ row) ∨ (0 ≤ row ∧ row < (L.length : Int))) (ca cb n what : Int) (hw0 : ¬ what = 0) (hw1 : ¬ what = 1) (hw2 : ¬ what = 2) (hw3 : ¬ what = 3) (hw4 : ¬ what = 4) (hw5 : ¬ what = 5) (y : Cell) (A : Option Addr) (c : Nat) (cs : List Cell) (soft : Bool) (q : Pen) (hT : Tabs w0) (hS : Objs w0 w (.grid p 58 cols L :: .grid x 33 cols L :: os)) (hc : 0 < cols) (hcm : cols ≤ 1000) (hR : Rect cols L) (hL : 0 < L.length) (hLm : L.length ≤ 1000) (hA : RdC w0 A c cs) (hlc : cs.length ≤ 100000) (ia : -9223372036854775808 ≤ ca ∧ ca ≤ 9223372036854775807) (ib : -9223372036854775808 ≤ cb ∧ cb ≤ 9223372036854775807) (i_n : -9223372036854775808 ≤ n ∧ n ≤ 9223372036854775807) :
  Calls Tryd.prog 43 #[.pointer (some ⟨p, 0, none⟩), .pointer (some ⟨x, 0, none⟩), .agg (av14 ⟨what, row, ca, cb, n, y, A, c, cs, soft, q⟩)] w fun e w' => e = .returned (.bool true) ∧ Objs w0 w' (.grid p 58 cols (act14N ⟨what, row, ca, cb, n, y, A, c, cs, soft, q⟩ cols L) :: .grid x 33 cols (act14N ⟨what, row, ca, cb, n, y, A, c, cs, soft, q⟩ cols L) :: os) := by
 have HT := Lib.hid hT
 have S0 := Lib.hid hS
 have HR := Lib.hid hR
 have HA := Lib.hid hA
 have HM := Lib.hid (hR.mill hcm)
 have hlm2 : L.length ≤ 100000 := by omega
 have hlm3 : L.length ≤ 1000000 := by omega
 have HIA := Lib.hid ia
 have HIB := Lib.hid ib
 have HIN := Lib.hid i_n
 clear hT hS hR hA ia ib i_n
 rcases h0 with h0 | ⟨h0, h1⟩ | ⟨h0, h1⟩
 all_goals
  have HN := Lib.hid (show act14N ⟨what, row, ca, cb, n, y, A, c, cs, soft, q⟩ cols L = L by simp [act14N, hw0, hw1, hw2, hw3, hw4, hw5])
  go_enter Tryd.func43, Tryd.ntmps43
  go_upto_region 1 with (fail)
  refine at_objsC S0.out.alloc1 (fun W hW => ?_)
  generalize w.heap.size = b5 at hW ⊢
  have S1 := Lib.hid hW
  clear hW S0
  obtain ⟨hx, hf, hz, hr, hp, hcl, hpc⟩ := (S1.out.box (k := 0) rfl).act14
  obtain ⟨Ax, cx, hBx, -, -⟩ := S1.out.gridRd (k := 2) rfl
  obtain ⟨hxx, hfx, hzx⟩ := hBx.facts
  clear hBx
  first | (have d1 : decide ((0 : Int) ≤ row) = false := decide_eq_false (by omega)) | (have d1 : decide ((0 : Int) ≤ row) = true := decide_eq_true (by omega))
  first | (have d2 : decide (row < (L.length : Int)) = false := decide_eq_false (by omega)) | (have d2 : decide (row < (L.length : Int)) = true := decide_eq_true (by omega))
  refine wp_region_below (by kernel_rfl) (by kernel_rfl) ?_
  repeat (go_big_quiet_step (fail))
  refine wpQuiet_nil ?_
  intro w2 hb2
  have S2 := Lib.hid (S1.out.bel hb2)
  clear hb2 S1
  clear hx hf hz hr hp hcl hpc hxx hfx hzx
  obtain ⟨hx, hf, hz, hr, hp, hcl, hpc⟩ := (S2.out.box (k := 0) rfl).act14
  obtain ⟨Ax, cx, hBx, -, -⟩ := S2.out.gridRd (k := 2) rfl
  obtain ⟨hxx, hfx, hzx⟩ := hBx.facts
  clear hBx
  have hb0 : (what == 0) = false := beq_no hw0
  have hb1 : (what == 1) = false := beq_no hw1
  have hb2 : (what == 2) = false := beq_no hw2
  have hb3 : (what == 3) = false := beq_no hw3
  have hb4 : (what == 4) = false := beq_no hw4
  have hb5 : (what == 5) = false := beq_no hw5
  go_wp2_with fail
  go_ret
  exact ⟨rfl, by rw [HN.out]; exact S2.out.tail⟩
end
end Go.Proofs.YtppijfjigcoifaaDoor

namespace Go.Proofs.YtppijfjigcoifaaDoor
open Go.RowKit

theorem own_rdc {w : World} {A : Option Addr} {n c : Nat} {cs : List Cell} (h : OwnC w 0 (.slice A n c) cs) : n = cs.length ∧ RdC w A c cs := by
 obtain ⟨A', c', e, hr⟩ := h.form
 simp only [Value.slice.injEq] at e
 obtain ⟨rfl, h2, rfl⟩ := e
 exact ⟨h2, hr⟩
section
variable {w0 w : World} {os : List Ob} {p x cols : Nat} {L : List Ln}
set_option maxRecDepth 100000 in
set_option maxHeartbeats 8000000 in
theorem does_setl_out (row : Int) (h0 : row < 0 ∨ (0 ≤ row ∧ (L.length : Int) ≤ row)) (ca cb n : Int) (y : Cell) (A : Option Addr) (c : Nat) (cs : List Cell) (soft : Bool) (q : Pen) (hT : Tabs w0) (hS : Objs w0 w (.grid p 58 cols L :: .grid x 33 cols L :: os)) (hc : 0 < cols) (hcm : cols ≤ 1000) (hR : Rect cols L) (hL : 0 < L.length) (hLm : L.length ≤ 1000) (hA : RdC w0 A c cs) (hlc : cs.length ≤ 100000) (ia : -9223372036854775808 ≤ ca ∧ ca ≤ 9223372036854775807) (ib : -9223372036854775808 ≤ cb ∧ cb ≤ 9223372036854775807) (i_n : -9223372036854775808 ≤ n ∧ n ≤ 9223372036854775807) :
  Calls Tryd.prog 43 #[.pointer (some ⟨p, 0, none⟩), .pointer (some ⟨x, 0, none⟩), .agg (av14 ⟨3, row, ca, cb, n, y, A, c, cs, soft, q⟩)] w fun e w' => e = .returned (.bool true) ∧ Objs w0 w' (.grid p 58 cols (act14N ⟨3, row, ca, cb, n, y, A, c, cs, soft, q⟩ cols L) :: .grid x 33 cols (act14N ⟨3, row, ca, cb, n, y, A, c, cs, soft, q⟩ cols L) :: os) := by
 have HT := Lib.hid hT
 have S0 := Lib.hid hS
 have HR := Lib.hid hR
 have HA := Lib.hid hA
 have HM := Lib.hid (hR.mill hcm)
 have hlm2 : L.length ≤ 100000 := by omega
 have hlm3 : L.length ≤ 1000000 := by omega
 have HIA := Lib.hid ia
 have HIB := Lib.hid ib
 have HIN := Lib.hid i_n
 clear hT hS hR hA ia ib i_n
 rcases h0 with h0 | ⟨h0, h1⟩
 all_goals
  have HE := Lib.hid (show setE row cs L.length = 3 by have hh : here14 row L.length = false := decide_eq_false (by omega); unfold setE; rw [if_pos (by rw [hh]; decide)])
  have HN := Lib.hid (show act14N ⟨3, row, ca, cb, n, y, A, c, cs, soft, q⟩ cols L = L by simp [act14N, HE.out])
  go_enter Tryd.func43, Tryd.ntmps43
  go_upto_region 1 with (fail)
  refine at_objsC S0.out.alloc1 (fun W hW => ?_)
  generalize w.heap.size = b5 at hW ⊢
  have S1 := Lib.hid hW
  clear hW S0
  obtain ⟨hx, hf, hz, hr, hp, hcl, hpc⟩ := (S1.out.box (k := 0) rfl).act14
  obtain ⟨Ax, cx, hBx, -, -⟩ := S1.out.gridRd (k := 2) rfl
  obtain ⟨hxx, hfx, hzx⟩ := hBx.facts
  clear hBx
  first | (have d1 : decide ((0 : Int) ≤ row) = false := decide_eq_false (by omega)) | (have d1 : decide ((0 : Int) ≤ row) = true := decide_eq_true (by omega))
  first | (have d2 : decide (row < (L.length : Int)) = false := decide_eq_false (by omega)) | (have d2 : decide (row < (L.length : Int)) = true := decide_eq_true (by omega))
  refine wp_region_below (by kernel_rfl) (by kernel_rfl) ?_
  repeat (go_big_quiet_step (fail))
  refine wpQuiet_nil ?_
  intro w2 hb2
  have S2 := Lib.hid (S1.out.bel hb2)
  clear hb2 S1
  clear hx hf hz hr hp hcl hpc hxx hfx hzx
  obtain ⟨hx, hf, hz, hr, hp, hcl, hpc⟩ := (S2.out.box (k := 0) rfl).act14
  obtain ⟨Ax, cx, hBx, -, -⟩ := S2.out.gridRd (k := 2) rfl
  obtain ⟨hxx, hfx, hzx⟩ := hBx.facts
  clear hBx
  go_wp2_with fail
  clear hx hf hz hr hp hcl hpc hxx hfx hzx
  refine wp_region_stage (w0 := w0) (os := (.grid p 58 ↑cols L :: .grid x 33 ↑cols L :: os)) (by kernel_rfl) (by kernel_rfl) (by kernel_rfl) [(0, 3, [3], fun vs => .cells (vs 3) cs), (0, 7, [7], fun vs => .cells (lineV (vs 7)) cs), (1, 8, [8], fun vs => .box (blkOf (vs 8)) 39 #[.slice none 0 0, .bool false]), (1, 9, [8, 7], fun vs => .box (blkOf (vs 8)) 39 #[lineV (vs 7), .bool soft])] [[], [], [2], [0], [], [], [2], [0], [1], [1]] [.none, .none, .box b5 90 (av14 ⟨3, row, ca, cb, n, y, A, c, cs, soft, q⟩)] (fun opn u => match opn with | 0 => u = pt b5 21 | 1 => u = pt b5 21 | 2 => u = .slice A cs.length c | 3 => ∃ A n c, u = .slice A n c | 4 => u = pt b5 21 | 5 => u = pt b5 22 | 6 => u = .bool soft | 7 => ∃ A m c, u = .agg #[.slice A m c, .bool soft] | 8 => ∃ g, u = pt g 0 | 9 => True | _ => True) (fun vs => [.cells (lineV (vs 7)) cs, .box (blkOf (vs 8)) 39 #[lineV (vs 7), .bool soft], .box b5 90 (av14 ⟨3, row, ca, cb, n, y, A, c, cs, soft, q⟩)]) (by kernel_rfl) (fun vs => by rfl) S2.out.pad.pad ?_ ?_
  ·apply sc
   ·intro a w' vs σ hS hl hs hk
    have f5 : a.tmps[5]?.getD undef = .pointer (some ⟨b5, 0, none⟩) := sof hk
    exact rp (pt b5 21) (by simp [execOp, Act.eval, f5, go_sem]) hl hs hS
   apply sc
   ·intro a w' vs σ hS hl hs hk
    have f200 : a.tmps[200]?.getD undef = .pointer (some ⟨b5, 21, none⟩) := sf hk 0
    exact rp (pt b5 21) (by simp [execOp, Act.eval, f200, go_sem]) hl hs hS
   apply sc
   ·intro a w' vs σ hS hl hs hk
    have f201 : a.tmps[201]?.getD undef = .pointer (some ⟨b5, 21, none⟩) := sf hk 1
    have hx := (hS.box (sg (hs 2 (by decide)))).cell
    exact rp (.slice A cs.length c) (by simp [execOp, Act.eval, f201, go_sem, hx]) hl hs hS
   apply sc
   ·intro a w' vs σ hS hl hs hk
    have e202 : a.tmps.getD 202 undef = .slice A cs.length c := sv hk 2
    have h0 : σ[0]? = some .none := hs 0 (by decide)
    obtain ⟨v6, w6, hr, hS2, A6, c6, hv6⟩ := run_appO hS.nilCells (k := 0) rfl (hS.rd HA.out) (by simp; omega) 37
    exact rs_run (wanted_none rfl) (exec_app rfl rfl (by simp only [Act.eval]; exact e202) hr) (sp_set 0 (.cells v6 cs) (by kernel_rfl) (by simp) (by decide) hl hs (by rfl) (Objs.place (by simpa using hS2) (sg h0)) ⟨A6, _, c6, hv6⟩)
   apply sc
   ·intro a w' vs σ hS hl hs hk
    have f5 : a.tmps[5]?.getD undef = .pointer (some ⟨b5, 0, none⟩) := sof hk
    exact rp (pt b5 21) (by simp [execOp, Act.eval, f5, go_sem]) hl hs hS
   apply sc
   ·intro a w' vs σ hS hl hs hk
    have f204 : a.tmps[204]?.getD undef = .pointer (some ⟨b5, 21, none⟩) := sf hk 4
    exact rp (pt b5 22) (by simp [execOp, Act.eval, f204, go_sem]) hl hs hS
   apply sc
   ·intro a w' vs σ hS hl hs hk
    have f205 : a.tmps[205]?.getD undef = .pointer (some ⟨b5, 22, none⟩) := sf hk 5
    have hx := (hS.box (sg (hs 2 (by decide)))).cell
    exact rp (.bool soft) (by simp [execOp, Act.eval, f205, go_sem, hx]) hl hs hS
   apply sc
   ·intro a w' vs σ hS hl hs hk
    have e203 : a.tmps.getD 203 undef = vs 3 := sk_val hk 3 (by kernel_rfl) rfl rfl
    have p203 : (fun u : Value => ∃ A n c, u = .slice A n c) (vs 3) := (hk.1 3 (by kernel_rfl)).1
    have f206 : a.tmps[206]?.getD undef = .bool soft := sf hk 6
    obtain ⟨A6, n6, c6, q6⟩ := p203
    have e9 := e203.trans q6
    have f9 := gd e9
    have h0 : σ[0]? = some (.cells (vs 3) cs) := hs 0 (by decide)
    rw [q6] at h0
    have hSS := hS
    rw [← set_self (sg (os := (.grid p 58 ↑cols L :: .grid x 33 ↑cols L :: os)) h0)] at hSS
    exact rs_run (v' := .agg #[.slice A6 n6 c6, .bool soft]) (w' := w') (wanted_none rfl) (by simp [execOp, Act.eval, e9, f9, f206, go_sem]) (sp_set 0 (.cells (.slice A6 n6 c6) cs) (by kernel_rfl) (by simp) (by decide) hl hs (by rfl) hSS ⟨A6, n6, c6, rfl⟩)
   apply sc
   ·intro a w' vs σ hS hl hs hk
    have h1 : σ[1]? = some .none := hs 1 (by decide)
    exact rs_run (v' := .pointer (some ⟨w'.heap.size, 0, none⟩)) (w' := w'.alloc (.cells #[.slice none 0 0, .bool false] 39)) (wanted_none rfl) (by simp [execOp, go_sem]) (sp_set 1 (.box w'.heap.size 39 #[.slice none 0 0, .bool false]) (by kernel_rfl) (by simp) (by decide) hl hs (by rfl) (hS.alloc1.place (sg h1)) ⟨_, rfl⟩)
   apply sc
   ·intro a w' vs σ hS hl hs hk
    have e9 : a.tmps.getD 9 undef = vs 8 := sk_val hk 8 (by kernel_rfl) rfl rfl
    have p9 : (fun u : Value => ∃ g, u = .pointer (some ⟨g, 0, none⟩)) (vs 8) := (hk.1 8 (by kernel_rfl)).1
    have f9 := gd e9
    have e207 : a.tmps.getD 207 undef = vs 7 := sk_val hk 7 (by kernel_rfl) rfl rfl
    have p207 : (fun u : Value => ∃ A m c, u = .agg #[.slice A m c, .bool soft]) (vs 7) := (hk.1 7 (by kernel_rfl)).1
    have f207 := gd e207
    obtain ⟨g9, q9⟩ := p9
    obtain ⟨A7, n7, c7, q7⟩ := p207
    have h1 : σ[1]? = some (.box (blkOf (vs 8)) 39 #[.slice none 0 0, .bool false]) := hs 1 (by decide)
    rw [q9, show blkOf (.pointer (some ⟨g9, 0, none⟩)) = g9 from rfl] at h1
    obtain ⟨hx, hf, hz⟩ := (hS.box (sg h1)).facts
    exact rstep_store (w2 := (w'.setCell ⟨g9, 0, none⟩ (.slice A7 n7 c7)).setCell ⟨g9, 1, none⟩ (.bool soft)) (wanted_none rfl) rfl (by simp [execOp, Act.eval, e9, f9, e207, f207, q9, q7, hx, hf, hz, go_sem]) (sp_set 1 (.box g9 39 #[.slice A7 n7 c7, .bool soft]) (by kernel_rfl) (by simp) (by decide) hl hs (by show Ob.box (blkOf (vs 8)) 39 #[lineV (vs 7), .bool soft] = _; rw [q9, q7]; rfl) (hS.setLine 1 _ soft (sg h1)) trivial) trivial
   exact SSteps.nil
  ·intro vs w' hS hv
   have q0 : vs 0 = _ := hv 0 (by decide)
   have q1 : vs 1 = _ := hv 1 (by decide)
   have q2 : vs 2 = _ := hv 2 (by decide)
   have q4 : vs 4 = _ := hv 4 (by decide)
   have q5 : vs 5 = _ := hv 5 (by decide)
   have q6 : vs 6 = _ := hv 6 (by decide)
   obtain ⟨g9, q8⟩ := (show ∃ g, vs 8 = .pointer (some ⟨g, 0, none⟩) from hv 8 (by decide))
   obtain ⟨A7, n7, c7, q7⟩ := (show ∃ A m c, vs 7 = .agg #[.slice A m c, .bool soft] from hv 7 (by decide))
   obtain ⟨A3, n3, c3, q3⟩ := (show ∃ A n c, vs 3 = .slice A n c from hv 3 (by decide))
   rw [q8, q7, show lineV (.agg #[.slice A7 n7 c7, .bool soft]) = .slice A7 n7 c7 from rfl, show blkOf (.pointer (some ⟨g9, 0, none⟩)) = g9 from rfl] at hS
   obtain ⟨Ao, co, e, -⟩ := hS.cellsRd (k := 0) rfl
   rw [e] at hS q7
   clear e
   have S2 := Lib.hid hS
   simp only [putL, Act.put, Nat.zero_add, Nat.reduceAdd, List.setIfInBounds_toArray, List.set_cons_succ, List.set_cons_zero, q0, q1, q2, q4, q5, q6]
   clear hS hv q0 q1 q2 q4 q5 q6
   simp only [q8, q7, q3]
   have S50 := Lib.hid (show Objs w0 _ (.grid p 58 ↑cols L :: .cells (.slice Ao cs.length co) cs :: .box g9 39 #[.slice Ao cs.length co, .bool soft] :: .box b5 90 (av14 ⟨3, row, ca, cb, n, y, A, c, cs, soft, q⟩) :: .grid x 33 ↑cols L :: os) from (Objs.pick (σ := [_, _, _, _, _]) (os := os) S2.out [some 3, some 0, some 1, some 2, some 4] (by decide) rfl))
   clear S2 q8 q7 q3
   clear S2
   obtain ⟨hx, hf, hz, hr, hp, hcl, hpc⟩ := (S50.out.box (k := 3) rfl).act14
   obtain ⟨Ax, cx, hBx, -, -⟩ := S50.out.gridRd (k := 4) rfl
   obtain ⟨hxx, hfx, hzx⟩ := hBx.facts
   clear hBx
   obtain ⟨hx9, hf9, hz9⟩ := (S50.out.box (k := 2) rfl).facts
   go_wp2_with fail
   clear hx9 hf9 hz9
   clear hx hf hz hr hp hcl hpc hxx hfx hzx
   have hcon := no_call (r := .int .i64 3) rfl S50.out (k := 0) rfl (fun os1 h => SetLine_out (row := row) (v := .slice Ao cs.length co) (s := soft) h hc (by omega))
   refine hcon.mono ?_
   rintro e w3 ⟨rfl, hS⟩
   have S51 := Lib.hid hS
   clear hS hcon S50
   obtain ⟨hx, hf, hz, hr, hp, hcl, hpc⟩ := (S51.out.box (k := 3) rfl).act14
   obtain ⟨Ax, cx, hBx, -, -⟩ := S51.out.gridRd (k := 4) rfl
   obtain ⟨hxx, hfx, hzx⟩ := hBx.facts
   clear hBx
   obtain ⟨hx9, hf9, hz9⟩ := (S51.out.box (k := 2) rfl).facts
   go_wp2_with fail
   clear hx9 hf9 hz9
   clear hx hf hz hr hp hcl hpc hxx hfx hzx
   go_loopw [13] (fun vi wr => ∃ (k : Nat) (mc : List Cell), k ≤ cs.length ∧ vi = .int .i64 k ∧ Hid (mc.length = cs.length) ∧ Objs w0 wr (.grid p 58 ↑cols L :: .cells (.slice Ao cs.length co) mc :: .box g9 39 #[.slice Ao cs.length co, .bool soft] :: .box b5 90 (av14 ⟨3, row, ca, cb, n, y, A, c, cs, soft, q⟩) :: .grid x 33 ↑cols L :: os)) (fun vi _ => cs.length - (intOf vi).toNat)
   case atStart => exact ⟨0, cs, Nat.zero_le _, rfl, Lib.hid rfl, S51.out⟩
   case round =>
   clear S51
   obtain ⟨k, mc, hk, rfl, HMC, hS⟩ := hrel
   obtain ⟨hx9, hf9, hz9⟩ := (hS.box (k := 2) rfl).facts
   by_cases hlt : k < cs.length
   case neg =>
    have S70 := Lib.hid hS
    clear hS
    go_wp2_with fail
    go_ret
    exact ⟨rfl, by rw [HN.out]; exact (Objs.pick (σ := [_, _, _, _, _]) (os := os) S70.out [some 0, some 4] (by decide) rfl)⟩
   obtain ⟨xm, hxm⟩ := get_of (show k < mc.length by rw [HMC.out]; exact hlt)
   obtain ⟨gm, cm, e, hzm, hcw, hfm⟩ := hS.ownAt (k := 1) (j := k) rfl hxm
   simp only [Value.slice.injEq] at e
   obtain ⟨rfl, -, rfl⟩ := e
   have hS2 := hS.setWidth (k := 1) rfl hxm 9
   rw [cellW_at hxm] at hS2
   have S71 := Lib.hid hS2
   have hb0 : (0 : Int) ≤ (k : Int) := by omega
   have hb1 : (k : Int) < (cs.length : Int) := by omega
   clear hS hS2
   go_wp2_with fail
   go_roundw
   case rel => exact ⟨k + 1, set9 k mc, by omega, by go_num, Lib.hid (by rw [set9_length]; exact HMC.out), S71.out⟩
   case measure => simp [intOf]; omega
set_option maxRecDepth 100000 in
set_option maxHeartbeats 8000000 in
theorem does_setl_bad (row : Nat) (h0 : row < L.length) (ca cb n : Int) (y : Cell) (A : Option Addr) (c : Nat) (cs : List Cell) (soft : Bool) (q : Pen) (hT : Tabs w0) (hS : Objs w0 w (.grid p 58 cols L :: .grid x 33 cols L :: os)) (hc : 0 < cols) (hcm : cols ≤ 1000) (hR : Rect cols L) (hL : 0 < L.length) (hLm : L.length ≤ 1000) (hA : RdC w0 A c cs) (hlc : cs.length ≤ 100000) (ia : -9223372036854775808 ≤ ca ∧ ca ≤ 9223372036854775807) (ib : -9223372036854775808 ≤ cb ∧ cb ≤ 9223372036854775807) (i_n : -9223372036854775808 ≤ n ∧ n ≤ 9223372036854775807) (hv : lineOk cs = false) :
  Calls Tryd.prog 43 #[.pointer (some ⟨p, 0, none⟩), .pointer (some ⟨x, 0, none⟩), .agg (av14 ⟨3, ↑row, ca, cb, n, y, A, c, cs, soft, q⟩)] w fun e w' => e = .returned (.bool true) ∧ Objs w0 w' (.grid p 58 cols (act14N ⟨3, ↑row, ca, cb, n, y, A, c, cs, soft, q⟩ cols L) :: .grid x 33 cols (act14N ⟨3, ↑row, ca, cb, n, y, A, c, cs, soft, q⟩ cols L) :: os) := by
 have HT := Lib.hid hT
 have S0 := Lib.hid hS
 have HR := Lib.hid hR
 have HA := Lib.hid hA
 have HM := Lib.hid (hR.mill hcm)
 have hlm2 : L.length ≤ 100000 := by omega
 have hlm3 : L.length ≤ 1000000 := by omega
 have HIA := Lib.hid ia
 have HIB := Lib.hid ib
 have HIN := Lib.hid i_n
 clear hT hS hR hA ia ib i_n
 have HE := Lib.hid (show setE ↑row cs L.length = 2 by have hh : here14 (row : Int) L.length = true := decide_eq_true (by omega); unfold setE; rw [if_neg (fun h => h hh), if_pos (by rw [hv]; decide)])
 have HN := Lib.hid (show act14N ⟨3, ↑row, ca, cb, n, y, A, c, cs, soft, q⟩ cols L = L by simp [act14N, HE.out])
 have HV := Lib.hid hv
 clear hv
 go_enter Tryd.func43, Tryd.ntmps43
 go_upto_region 1 with (fail)
 refine at_objsC S0.out.alloc1 (fun W hW => ?_)
 generalize w.heap.size = b5 at hW ⊢
 have S1 := Lib.hid hW
 clear hW S0
 obtain ⟨hx, hf, hz, hr, hp, hcl, hpc⟩ := (S1.out.box (k := 0) rfl).act14
 obtain ⟨Ax, cx, hBx, -, -⟩ := S1.out.gridRd (k := 2) rfl
 obtain ⟨hxx, hfx, hzx⟩ := hBx.facts
 clear hBx
 have d1 : decide ((0 : Int) ≤ (row : Int)) = true := decide_eq_true (by omega)
 have d2 : decide ((row : Int) < (L.length : Int)) = true := decide_eq_true (by omega)
 refine wp_region_below (by kernel_rfl) (by kernel_rfl) ?_
 repeat (go_big_quiet_step (fail))
 refine wpQuiet_nil ?_
 intro w2 hb2
 have S2 := Lib.hid (S1.out.bel hb2)
 clear hb2 S1
 clear hx hf hz hr hp hcl hpc hxx hfx hzx
 obtain ⟨hx, hf, hz, hr, hp, hcl, hpc⟩ := (S2.out.box (k := 0) rfl).act14
 obtain ⟨Ax, cx, hBx, -, -⟩ := S2.out.gridRd (k := 2) rfl
 obtain ⟨hxx, hfx, hzx⟩ := hBx.facts
 clear hBx
 go_wp2_with fail
 clear hx hf hz hr hp hcl hpc hxx hfx hzx
 refine wp_region_stage (w0 := w0) (os := (.grid p 58 ↑cols L :: .grid x 33 ↑cols L :: os)) (by kernel_rfl) (by kernel_rfl) (by kernel_rfl) [(0, 3, [3], fun vs => .cells (vs 3) cs), (0, 7, [7], fun vs => .cells (lineV (vs 7)) cs), (1, 8, [8], fun vs => .box (blkOf (vs 8)) 39 #[.slice none 0 0, .bool false]), (1, 9, [8, 7], fun vs => .box (blkOf (vs 8)) 39 #[lineV (vs 7), .bool soft])] [[], [], [2], [0], [], [], [2], [0], [1], [1]] [.none, .none, .box b5 90 (av14 ⟨3, ↑row, ca, cb, n, y, A, c, cs, soft, q⟩)] (fun opn u => match opn with | 0 => u = pt b5 21 | 1 => u = pt b5 21 | 2 => u = .slice A cs.length c | 3 => ∃ A n c, u = .slice A n c | 4 => u = pt b5 21 | 5 => u = pt b5 22 | 6 => u = .bool soft | 7 => ∃ A m c, u = .agg #[.slice A m c, .bool soft] | 8 => ∃ g, u = pt g 0 | 9 => True | _ => True) (fun vs => [.cells (lineV (vs 7)) cs, .box (blkOf (vs 8)) 39 #[lineV (vs 7), .bool soft], .box b5 90 (av14 ⟨3, ↑row, ca, cb, n, y, A, c, cs, soft, q⟩)]) (by kernel_rfl) (fun vs => by rfl) S2.out.pad.pad ?_ ?_
 ·apply sc
  ·intro a w' vs σ hS hl hs hk
   have f5 : a.tmps[5]?.getD undef = .pointer (some ⟨b5, 0, none⟩) := sof hk
   exact rp (pt b5 21) (by simp [execOp, Act.eval, f5, go_sem]) hl hs hS
  apply sc
  ·intro a w' vs σ hS hl hs hk
   have f200 : a.tmps[200]?.getD undef = .pointer (some ⟨b5, 21, none⟩) := sf hk 0
   exact rp (pt b5 21) (by simp [execOp, Act.eval, f200, go_sem]) hl hs hS
  apply sc
  ·intro a w' vs σ hS hl hs hk
   have f201 : a.tmps[201]?.getD undef = .pointer (some ⟨b5, 21, none⟩) := sf hk 1
   have hx := (hS.box (sg (hs 2 (by decide)))).cell
   exact rp (.slice A cs.length c) (by simp [execOp, Act.eval, f201, go_sem, hx]) hl hs hS
  apply sc
  ·intro a w' vs σ hS hl hs hk
   have e202 : a.tmps.getD 202 undef = .slice A cs.length c := sv hk 2
   have h0 : σ[0]? = some .none := hs 0 (by decide)
   obtain ⟨v6, w6, hr, hS2, A6, c6, hv6⟩ := run_appO hS.nilCells (k := 0) rfl (hS.rd HA.out) (by simp; omega) 37
   exact rs_run (wanted_none rfl) (exec_app rfl rfl (by simp only [Act.eval]; exact e202) hr) (sp_set 0 (.cells v6 cs) (by kernel_rfl) (by simp) (by decide) hl hs (by rfl) (Objs.place (by simpa using hS2) (sg h0)) ⟨A6, _, c6, hv6⟩)
  apply sc
  ·intro a w' vs σ hS hl hs hk
   have f5 : a.tmps[5]?.getD undef = .pointer (some ⟨b5, 0, none⟩) := sof hk
   exact rp (pt b5 21) (by simp [execOp, Act.eval, f5, go_sem]) hl hs hS
  apply sc
  ·intro a w' vs σ hS hl hs hk
   have f204 : a.tmps[204]?.getD undef = .pointer (some ⟨b5, 21, none⟩) := sf hk 4
   exact rp (pt b5 22) (by simp [execOp, Act.eval, f204, go_sem]) hl hs hS
  apply sc
  ·intro a w' vs σ hS hl hs hk
   have f205 : a.tmps[205]?.getD undef = .pointer (some ⟨b5, 22, none⟩) := sf hk 5
   have hx := (hS.box (sg (hs 2 (by decide)))).cell
   exact rp (.bool soft) (by simp [execOp, Act.eval, f205, go_sem, hx]) hl hs hS
  apply sc
  ·intro a w' vs σ hS hl hs hk
   have e203 : a.tmps.getD 203 undef = vs 3 := sk_val hk 3 (by kernel_rfl) rfl rfl
   have p203 : (fun u : Value => ∃ A n c, u = .slice A n c) (vs 3) := (hk.1 3 (by kernel_rfl)).1
   have f206 : a.tmps[206]?.getD undef = .bool soft := sf hk 6
   obtain ⟨A6, n6, c6, q6⟩ := p203
   have e9 := e203.trans q6
   have f9 := gd e9
   have h0 : σ[0]? = some (.cells (vs 3) cs) := hs 0 (by decide)
   rw [q6] at h0
   have hSS := hS
   rw [← set_self (sg (os := (.grid p 58 ↑cols L :: .grid x 33 ↑cols L :: os)) h0)] at hSS
   exact rs_run (v' := .agg #[.slice A6 n6 c6, .bool soft]) (w' := w') (wanted_none rfl) (by simp [execOp, Act.eval, e9, f9, f206, go_sem]) (sp_set 0 (.cells (.slice A6 n6 c6) cs) (by kernel_rfl) (by simp) (by decide) hl hs (by rfl) hSS ⟨A6, n6, c6, rfl⟩)
  apply sc
  ·intro a w' vs σ hS hl hs hk
   have h1 : σ[1]? = some .none := hs 1 (by decide)
   exact rs_run (v' := .pointer (some ⟨w'.heap.size, 0, none⟩)) (w' := w'.alloc (.cells #[.slice none 0 0, .bool false] 39)) (wanted_none rfl) (by simp [execOp, go_sem]) (sp_set 1 (.box w'.heap.size 39 #[.slice none 0 0, .bool false]) (by kernel_rfl) (by simp) (by decide) hl hs (by rfl) (hS.alloc1.place (sg h1)) ⟨_, rfl⟩)
  apply sc
  ·intro a w' vs σ hS hl hs hk
   have e9 : a.tmps.getD 9 undef = vs 8 := sk_val hk 8 (by kernel_rfl) rfl rfl
   have p9 : (fun u : Value => ∃ g, u = .pointer (some ⟨g, 0, none⟩)) (vs 8) := (hk.1 8 (by kernel_rfl)).1
   have f9 := gd e9
   have e207 : a.tmps.getD 207 undef = vs 7 := sk_val hk 7 (by kernel_rfl) rfl rfl
   have p207 : (fun u : Value => ∃ A m c, u = .agg #[.slice A m c, .bool soft]) (vs 7) := (hk.1 7 (by kernel_rfl)).1
   have f207 := gd e207
   obtain ⟨g9, q9⟩ := p9
   obtain ⟨A7, n7, c7, q7⟩ := p207
   have h1 : σ[1]? = some (.box (blkOf (vs 8)) 39 #[.slice none 0 0, .bool false]) := hs 1 (by decide)
   rw [q9, show blkOf (.pointer (some ⟨g9, 0, none⟩)) = g9 from rfl] at h1
   obtain ⟨hx, hf, hz⟩ := (hS.box (sg h1)).facts
   exact rstep_store (w2 := (w'.setCell ⟨g9, 0, none⟩ (.slice A7 n7 c7)).setCell ⟨g9, 1, none⟩ (.bool soft)) (wanted_none rfl) rfl (by simp [execOp, Act.eval, e9, f9, e207, f207, q9, q7, hx, hf, hz, go_sem]) (sp_set 1 (.box g9 39 #[.slice A7 n7 c7, .bool soft]) (by kernel_rfl) (by simp) (by decide) hl hs (by show Ob.box (blkOf (vs 8)) 39 #[lineV (vs 7), .bool soft] = _; rw [q9, q7]; rfl) (hS.setLine 1 _ soft (sg h1)) trivial) trivial
  exact SSteps.nil
 ·intro vs w' hS hv
  have q0 : vs 0 = _ := hv 0 (by decide)
  have q1 : vs 1 = _ := hv 1 (by decide)
  have q2 : vs 2 = _ := hv 2 (by decide)
  have q4 : vs 4 = _ := hv 4 (by decide)
  have q5 : vs 5 = _ := hv 5 (by decide)
  have q6 : vs 6 = _ := hv 6 (by decide)
  obtain ⟨g9, q8⟩ := (show ∃ g, vs 8 = .pointer (some ⟨g, 0, none⟩) from hv 8 (by decide))
  obtain ⟨A7, n7, c7, q7⟩ := (show ∃ A m c, vs 7 = .agg #[.slice A m c, .bool soft] from hv 7 (by decide))
  obtain ⟨A3, n3, c3, q3⟩ := (show ∃ A n c, vs 3 = .slice A n c from hv 3 (by decide))
  rw [q8, q7, show lineV (.agg #[.slice A7 n7 c7, .bool soft]) = .slice A7 n7 c7 from rfl, show blkOf (.pointer (some ⟨g9, 0, none⟩)) = g9 from rfl] at hS
  obtain ⟨Ao, co, e, -⟩ := hS.cellsRd (k := 0) rfl
  rw [e] at hS q7
  clear e
  have S2 := Lib.hid hS
  simp only [putL, Act.put, Nat.zero_add, Nat.reduceAdd, List.setIfInBounds_toArray, List.set_cons_succ, List.set_cons_zero, q0, q1, q2, q4, q5, q6]
  clear hS hv q0 q1 q2 q4 q5 q6
  simp only [q8, q7, q3]
  have S50 := Lib.hid (show Objs w0 _ (.grid p 58 ↑cols L :: .cells (.slice Ao cs.length co) cs :: .box g9 39 #[.slice Ao cs.length co, .bool soft] :: .box b5 90 (av14 ⟨3, ↑row, ca, cb, n, y, A, c, cs, soft, q⟩) :: .grid x 33 ↑cols L :: os) from (Objs.pick (σ := [_, _, _, _, _]) (os := os) S2.out [some 3, some 0, some 1, some 2, some 4] (by decide) rfl))
  clear S2 q8 q7 q3
  clear S2
  obtain ⟨hx, hf, hz, hr, hp, hcl, hpc⟩ := (S50.out.box (k := 3) rfl).act14
  obtain ⟨Ax, cx, hBx, -, -⟩ := S50.out.gridRd (k := 4) rfl
  obtain ⟨hxx, hfx, hzx⟩ := hBx.facts
  clear hBx
  obtain ⟨hx9, hf9, hz9⟩ := (S50.out.box (k := 2) rfl).facts
  go_wp2_with fail
  clear hx9 hf9 hz9
  clear hx hf hz hr hp hcl hpc hxx hfx hzx
  have hcon := lvalid_is HV.out A c soft _ (S50.out.tabs HT.out) (S50.out.rd HA.out) (by omega)
  refine hcon.mono ?_
  rintro e w3 ⟨rfl, hb⟩
  have S51 := Lib.hid (S50.out.bel hb)
  clear hb hcon S50
  obtain ⟨hx, hf, hz, hr, hp, hcl, hpc⟩ := (S51.out.box (k := 3) rfl).act14
  obtain ⟨Ax, cx, hBx, -, -⟩ := S51.out.gridRd (k := 4) rfl
  obtain ⟨hxx, hfx, hzx⟩ := hBx.facts
  clear hBx
  obtain ⟨hx9, hf9, hz9⟩ := (S51.out.box (k := 2) rfl).facts
  go_wp2_with fail
  clear hx9 hf9 hz9
  clear hx hf hz hr hp hcl hpc hxx hfx hzx
  have hcon := SetLine_bad (i := row) (n := cs.length) (A := Ao) (c := co) (cs := cs) (s := soft) HT.out S51.out hc h0 rfl (fun w' ⟨F, hF⟩ _ => (own_rdc hF.1).2) hlc HV.out
  refine hcon.mono ?_
  rintro e w3 ⟨rfl, hS⟩
  have S52 := Lib.hid hS
  clear hS hcon S51
  obtain ⟨hx, hf, hz, hr, hp, hcl, hpc⟩ := (S52.out.box (k := 3) rfl).act14
  obtain ⟨Ax, cx, hBx, -, -⟩ := S52.out.gridRd (k := 4) rfl
  obtain ⟨hxx, hfx, hzx⟩ := hBx.facts
  clear hBx
  obtain ⟨hx9, hf9, hz9⟩ := (S52.out.box (k := 2) rfl).facts
  go_wp2_with fail
  clear hx9 hf9 hz9
  clear hx hf hz hr hp hcl hpc hxx hfx hzx
  go_loopw [13] (fun vi wr => ∃ (k : Nat) (mc : List Cell), k ≤ cs.length ∧ vi = .int .i64 k ∧ Hid (mc.length = cs.length) ∧ Objs w0 wr (.grid p 58 ↑cols L :: .cells (.slice Ao cs.length co) mc :: .box g9 39 #[.slice Ao cs.length co, .bool soft] :: .box b5 90 (av14 ⟨3, ↑row, ca, cb, n, y, A, c, cs, soft, q⟩) :: .grid x 33 ↑cols L :: os)) (fun vi _ => cs.length - (intOf vi).toNat)
  case atStart => exact ⟨0, cs, Nat.zero_le _, rfl, Lib.hid rfl, S52.out⟩
  case round =>
  clear S52
  obtain ⟨k, mc, hk, rfl, HMC, hS⟩ := hrel
  obtain ⟨hx9, hf9, hz9⟩ := (hS.box (k := 2) rfl).facts
  by_cases hlt : k < cs.length
  case neg =>
   have S70 := Lib.hid hS
   clear hS
   go_wp2_with fail
   go_ret
   exact ⟨rfl, by rw [HN.out]; exact (Objs.pick (σ := [_, _, _, _, _]) (os := os) S70.out [some 0, some 4] (by decide) rfl)⟩
  obtain ⟨xm, hxm⟩ := get_of (show k < mc.length by rw [HMC.out]; exact hlt)
  obtain ⟨gm, cm, e, hzm, hcw, hfm⟩ := hS.ownAt (k := 1) (j := k) rfl hxm
  simp only [Value.slice.injEq] at e
  obtain ⟨rfl, -, rfl⟩ := e
  have hS2 := hS.setWidth (k := 1) rfl hxm 9
  rw [cellW_at hxm] at hS2
  have S71 := Lib.hid hS2
  have hb0 : (0 : Int) ≤ (k : Int) := by omega
  have hb1 : (k : Int) < (cs.length : Int) := by omega
  clear hS hS2
  go_wp2_with fail
  go_roundw
  case rel => exact ⟨k + 1, set9 k mc, by omega, by go_num, Lib.hid (by rw [set9_length]; exact HMC.out), S71.out⟩
  case measure => simp [intOf]; omega
set_option maxRecDepth 100000 in
set_option maxHeartbeats 8000000 in
theorem does_setl_ok (row : Nat) (h0 : row < L.length) (ca cb n : Int) (y : Cell) (A : Option Addr) (c : Nat) (cs : List Cell) (soft : Bool) (q : Pen) (hT : Tabs w0) (hS : Objs w0 w (.grid p 58 cols L :: .grid x 33 cols L :: os)) (hc : 0 < cols) (hcm : cols ≤ 1000) (hR : Rect cols L) (hL : 0 < L.length) (hLm : L.length ≤ 1000) (hA : RdC w0 A c cs) (hlc : cs.length ≤ 100000) (ia : -9223372036854775808 ≤ ca ∧ ca ≤ 9223372036854775807) (ib : -9223372036854775808 ≤ cb ∧ cb ≤ 9223372036854775807) (i_n : -9223372036854775808 ≤ n ∧ n ≤ 9223372036854775807) (hv : lineOk cs = true) :
  Calls Tryd.prog 43 #[.pointer (some ⟨p, 0, none⟩), .pointer (some ⟨x, 0, none⟩), .agg (av14 ⟨3, ↑row, ca, cb, n, y, A, c, cs, soft, q⟩)] w fun e w' => e = .returned (.bool true) ∧ Objs w0 w' (.grid p 58 cols (act14N ⟨3, ↑row, ca, cb, n, y, A, c, cs, soft, q⟩ cols L) :: .grid x 33 cols (act14N ⟨3, ↑row, ca, cb, n, y, A, c, cs, soft, q⟩ cols L) :: os) := by
 have HT := Lib.hid hT
 have S0 := Lib.hid hS
 have HR := Lib.hid hR
 have HA := Lib.hid hA
 have HM := Lib.hid (hR.mill hcm)
 have hlm2 : L.length ≤ 100000 := by omega
 have hlm3 : L.length ≤ 1000000 := by omega
 have HIA := Lib.hid ia
 have HIB := Lib.hid ib
 have HIN := Lib.hid i_n
 clear hT hS hR hA ia ib i_n
 have HE := Lib.hid (show setE ↑row cs L.length = 0 by have hh : here14 (row : Int) L.length = true := decide_eq_true (by omega); unfold setE; rw [if_neg (fun h => h hh), if_neg (fun h => h hv)])
 have HN := Lib.hid (show act14N ⟨3, ↑row, ca, cb, n, y, A, c, cs, soft, q⟩ cols L = L.set row ((fitTo cols cs), soft) by simp [act14N, HE.out])
 have HV := Lib.hid hv
 clear hv
 go_enter Tryd.func43, Tryd.ntmps43
 go_upto_region 1 with (fail)
 refine at_objsC S0.out.alloc1 (fun W hW => ?_)
 generalize w.heap.size = b5 at hW ⊢
 have S1 := Lib.hid hW
 clear hW S0
 obtain ⟨hx, hf, hz, hr, hp, hcl, hpc⟩ := (S1.out.box (k := 0) rfl).act14
 obtain ⟨Ax, cx, hBx, -, -⟩ := S1.out.gridRd (k := 2) rfl
 obtain ⟨hxx, hfx, hzx⟩ := hBx.facts
 clear hBx
 have d1 : decide ((0 : Int) ≤ (row : Int)) = true := decide_eq_true (by omega)
 have d2 : decide ((row : Int) < (L.length : Int)) = true := decide_eq_true (by omega)
 refine wp_region_below (by kernel_rfl) (by kernel_rfl) ?_
 repeat (go_big_quiet_step (fail))
 refine wpQuiet_nil ?_
 intro w2 hb2
 have S2 := Lib.hid (S1.out.bel hb2)
 clear hb2 S1
 clear hx hf hz hr hp hcl hpc hxx hfx hzx
 obtain ⟨hx, hf, hz, hr, hp, hcl, hpc⟩ := (S2.out.box (k := 0) rfl).act14
 obtain ⟨Ax, cx, hBx, -, -⟩ := S2.out.gridRd (k := 2) rfl
 obtain ⟨hxx, hfx, hzx⟩ := hBx.facts
 clear hBx
 go_wp2_with fail
 clear hx hf hz hr hp hcl hpc hxx hfx hzx
 refine wp_region_stage (w0 := w0) (os := (.grid p 58 ↑cols L :: .grid x 33 ↑cols L :: os)) (by kernel_rfl) (by kernel_rfl) (by kernel_rfl) [(0, 3, [3], fun vs => .cells (vs 3) cs), (0, 7, [7], fun vs => .cells (lineV (vs 7)) cs), (1, 8, [8], fun vs => .box (blkOf (vs 8)) 39 #[.slice none 0 0, .bool false]), (1, 9, [8, 7], fun vs => .box (blkOf (vs 8)) 39 #[lineV (vs 7), .bool soft])] [[], [], [2], [0], [], [], [2], [0], [1], [1]] [.none, .none, .box b5 90 (av14 ⟨3, ↑row, ca, cb, n, y, A, c, cs, soft, q⟩)] (fun opn u => match opn with | 0 => u = pt b5 21 | 1 => u = pt b5 21 | 2 => u = .slice A cs.length c | 3 => ∃ A n c, u = .slice A n c | 4 => u = pt b5 21 | 5 => u = pt b5 22 | 6 => u = .bool soft | 7 => ∃ A m c, u = .agg #[.slice A m c, .bool soft] | 8 => ∃ g, u = pt g 0 | 9 => True | _ => True) (fun vs => [.cells (lineV (vs 7)) cs, .box (blkOf (vs 8)) 39 #[lineV (vs 7), .bool soft], .box b5 90 (av14 ⟨3, ↑row, ca, cb, n, y, A, c, cs, soft, q⟩)]) (by kernel_rfl) (fun vs => by rfl) S2.out.pad.pad ?_ ?_
 ·apply sc
  ·intro a w' vs σ hS hl hs hk
   have f5 : a.tmps[5]?.getD undef = .pointer (some ⟨b5, 0, none⟩) := sof hk
   exact rp (pt b5 21) (by simp [execOp, Act.eval, f5, go_sem]) hl hs hS
  apply sc
  ·intro a w' vs σ hS hl hs hk
   have f200 : a.tmps[200]?.getD undef = .pointer (some ⟨b5, 21, none⟩) := sf hk 0
   exact rp (pt b5 21) (by simp [execOp, Act.eval, f200, go_sem]) hl hs hS
  apply sc
  ·intro a w' vs σ hS hl hs hk
   have f201 : a.tmps[201]?.getD undef = .pointer (some ⟨b5, 21, none⟩) := sf hk 1
   have hx := (hS.box (sg (hs 2 (by decide)))).cell
   exact rp (.slice A cs.length c) (by simp [execOp, Act.eval, f201, go_sem, hx]) hl hs hS
  apply sc
  ·intro a w' vs σ hS hl hs hk
   have e202 : a.tmps.getD 202 undef = .slice A cs.length c := sv hk 2
   have h0 : σ[0]? = some .none := hs 0 (by decide)
   obtain ⟨v6, w6, hr, hS2, A6, c6, hv6⟩ := run_appO hS.nilCells (k := 0) rfl (hS.rd HA.out) (by simp; omega) 37
   exact rs_run (wanted_none rfl) (exec_app rfl rfl (by simp only [Act.eval]; exact e202) hr) (sp_set 0 (.cells v6 cs) (by kernel_rfl) (by simp) (by decide) hl hs (by rfl) (Objs.place (by simpa using hS2) (sg h0)) ⟨A6, _, c6, hv6⟩)
  apply sc
  ·intro a w' vs σ hS hl hs hk
   have f5 : a.tmps[5]?.getD undef = .pointer (some ⟨b5, 0, none⟩) := sof hk
   exact rp (pt b5 21) (by simp [execOp, Act.eval, f5, go_sem]) hl hs hS
  apply sc
  ·intro a w' vs σ hS hl hs hk
   have f204 : a.tmps[204]?.getD undef = .pointer (some ⟨b5, 21, none⟩) := sf hk 4
   exact rp (pt b5 22) (by simp [execOp, Act.eval, f204, go_sem]) hl hs hS
  apply sc
  ·intro a w' vs σ hS hl hs hk
   have f205 : a.tmps[205]?.getD undef = .pointer (some ⟨b5, 22, none⟩) := sf hk 5
   have hx := (hS.box (sg (hs 2 (by decide)))).cell
   exact rp (.bool soft) (by simp [execOp, Act.eval, f205, go_sem, hx]) hl hs hS
  apply sc
  ·intro a w' vs σ hS hl hs hk
   have e203 : a.tmps.getD 203 undef = vs 3 := sk_val hk 3 (by kernel_rfl) rfl rfl
   have p203 : (fun u : Value => ∃ A n c, u = .slice A n c) (vs 3) := (hk.1 3 (by kernel_rfl)).1
   have f206 : a.tmps[206]?.getD undef = .bool soft := sf hk 6
   obtain ⟨A6, n6, c6, q6⟩ := p203
   have e9 := e203.trans q6
   have f9 := gd e9
   have h0 : σ[0]? = some (.cells (vs 3) cs) := hs 0 (by decide)
   rw [q6] at h0
   have hSS := hS
   rw [← set_self (sg (os := (.grid p 58 ↑cols L :: .grid x 33 ↑cols L :: os)) h0)] at hSS
   exact rs_run (v' := .agg #[.slice A6 n6 c6, .bool soft]) (w' := w') (wanted_none rfl) (by simp [execOp, Act.eval, e9, f9, f206, go_sem]) (sp_set 0 (.cells (.slice A6 n6 c6) cs) (by kernel_rfl) (by simp) (by decide) hl hs (by rfl) hSS ⟨A6, n6, c6, rfl⟩)
  apply sc
  ·intro a w' vs σ hS hl hs hk
   have h1 : σ[1]? = some .none := hs 1 (by decide)
   exact rs_run (v' := .pointer (some ⟨w'.heap.size, 0, none⟩)) (w' := w'.alloc (.cells #[.slice none 0 0, .bool false] 39)) (wanted_none rfl) (by simp [execOp, go_sem]) (sp_set 1 (.box w'.heap.size 39 #[.slice none 0 0, .bool false]) (by kernel_rfl) (by simp) (by decide) hl hs (by rfl) (hS.alloc1.place (sg h1)) ⟨_, rfl⟩)
  apply sc
  ·intro a w' vs σ hS hl hs hk
   have e9 : a.tmps.getD 9 undef = vs 8 := sk_val hk 8 (by kernel_rfl) rfl rfl
   have p9 : (fun u : Value => ∃ g, u = .pointer (some ⟨g, 0, none⟩)) (vs 8) := (hk.1 8 (by kernel_rfl)).1
   have f9 := gd e9
   have e207 : a.tmps.getD 207 undef = vs 7 := sk_val hk 7 (by kernel_rfl) rfl rfl
   have p207 : (fun u : Value => ∃ A m c, u = .agg #[.slice A m c, .bool soft]) (vs 7) := (hk.1 7 (by kernel_rfl)).1
   have f207 := gd e207
   obtain ⟨g9, q9⟩ := p9
   obtain ⟨A7, n7, c7, q7⟩ := p207
   have h1 : σ[1]? = some (.box (blkOf (vs 8)) 39 #[.slice none 0 0, .bool false]) := hs 1 (by decide)
   rw [q9, show blkOf (.pointer (some ⟨g9, 0, none⟩)) = g9 from rfl] at h1
   obtain ⟨hx, hf, hz⟩ := (hS.box (sg h1)).facts
   exact rstep_store (w2 := (w'.setCell ⟨g9, 0, none⟩ (.slice A7 n7 c7)).setCell ⟨g9, 1, none⟩ (.bool soft)) (wanted_none rfl) rfl (by simp [execOp, Act.eval, e9, f9, e207, f207, q9, q7, hx, hf, hz, go_sem]) (sp_set 1 (.box g9 39 #[.slice A7 n7 c7, .bool soft]) (by kernel_rfl) (by simp) (by decide) hl hs (by show Ob.box (blkOf (vs 8)) 39 #[lineV (vs 7), .bool soft] = _; rw [q9, q7]; rfl) (hS.setLine 1 _ soft (sg h1)) trivial) trivial
  exact SSteps.nil
 ·intro vs w' hS hv
  have q0 : vs 0 = _ := hv 0 (by decide)
  have q1 : vs 1 = _ := hv 1 (by decide)
  have q2 : vs 2 = _ := hv 2 (by decide)
  have q4 : vs 4 = _ := hv 4 (by decide)
  have q5 : vs 5 = _ := hv 5 (by decide)
  have q6 : vs 6 = _ := hv 6 (by decide)
  obtain ⟨g9, q8⟩ := (show ∃ g, vs 8 = .pointer (some ⟨g, 0, none⟩) from hv 8 (by decide))
  obtain ⟨A7, n7, c7, q7⟩ := (show ∃ A m c, vs 7 = .agg #[.slice A m c, .bool soft] from hv 7 (by decide))
  obtain ⟨A3, n3, c3, q3⟩ := (show ∃ A n c, vs 3 = .slice A n c from hv 3 (by decide))
  rw [q8, q7, show lineV (.agg #[.slice A7 n7 c7, .bool soft]) = .slice A7 n7 c7 from rfl, show blkOf (.pointer (some ⟨g9, 0, none⟩)) = g9 from rfl] at hS
  obtain ⟨Ao, co, e, -⟩ := hS.cellsRd (k := 0) rfl
  rw [e] at hS q7
  clear e
  have S2 := Lib.hid hS
  simp only [putL, Act.put, Nat.zero_add, Nat.reduceAdd, List.setIfInBounds_toArray, List.set_cons_succ, List.set_cons_zero, q0, q1, q2, q4, q5, q6]
  clear hS hv q0 q1 q2 q4 q5 q6
  simp only [q8, q7, q3]
  have S50 := Lib.hid (show Objs w0 _ (.grid p 58 ↑cols L :: .cells (.slice Ao cs.length co) cs :: .box g9 39 #[.slice Ao cs.length co, .bool soft] :: .box b5 90 (av14 ⟨3, ↑row, ca, cb, n, y, A, c, cs, soft, q⟩) :: .grid x 33 ↑cols L :: os) from (Objs.pick (σ := [_, _, _, _, _]) (os := os) S2.out [some 3, some 0, some 1, some 2, some 4] (by decide) rfl))
  clear S2 q8 q7 q3
  clear S2
  obtain ⟨hx, hf, hz, hr, hp, hcl, hpc⟩ := (S50.out.box (k := 3) rfl).act14
  obtain ⟨Ax, cx, hBx, -, -⟩ := S50.out.gridRd (k := 4) rfl
  obtain ⟨hxx, hfx, hzx⟩ := hBx.facts
  clear hBx
  obtain ⟨hx9, hf9, hz9⟩ := (S50.out.box (k := 2) rfl).facts
  go_wp2_with fail
  clear hx9 hf9 hz9
  clear hx hf hz hr hp hcl hpc hxx hfx hzx
  have hcon := lvalid_is HV.out A c soft _ (S50.out.tabs HT.out) (S50.out.rd HA.out) (by omega)
  refine hcon.mono ?_
  rintro e w3 ⟨rfl, hb⟩
  have S51 := Lib.hid (S50.out.bel hb)
  clear hb hcon S50
  obtain ⟨hx, hf, hz, hr, hp, hcl, hpc⟩ := (S51.out.box (k := 3) rfl).act14
  obtain ⟨Ax, cx, hBx, -, -⟩ := S51.out.gridRd (k := 4) rfl
  obtain ⟨hxx, hfx, hzx⟩ := hBx.facts
  clear hBx
  obtain ⟨hx9, hf9, hz9⟩ := (S51.out.box (k := 2) rfl).facts
  go_wp2_with fail
  clear hx9 hf9 hz9
  clear hx hf hz hr hp hcl hpc hxx hfx hzx
  refine wp_region_stage (w0 := w0) (os := os) (by kernel_rfl) (by kernel_rfl) (by kernel_rfl) [(0, 6, [6], fun vs => .cells (tupV (vs 6)) (fitTo cols cs)), (0, 7, [7], fun vs => .cells (tupV (vs 7)) (fitTo cols cs)), (0, 8, [8], fun vs => .cells (lineV (vs 8)) (fitTo cols cs)), (1, 10, [10], fun vs => .box (blkOf (vs 10)) 39 #[.slice none 0 0, .bool false]), (1, 11, [10, 8], fun vs => .box (blkOf (vs 10)) 39 #[lineV (vs 8), .bool soft])] [[], [5], [], [], [], [6], [0], [0], [0], [], [1], [1], []] [.none, .none, .grid p 58 ↑cols L, .cells (.slice Ao cs.length co) cs, .box g9 39 #[.slice Ao cs.length co, .bool soft], .box b5 90 (av14 ⟨3, ↑row, ca, cb, n, y, A, c, cs, soft, q⟩), .grid x 33 ↑cols L] (fun opn u => match opn with | 0 => u = pt b5 21 | 1 => u = .agg #[.slice A cs.length c, .bool soft] | 2 => u = pt x 0 | 3 => u = pt x 0 | 4 => u = pt x 0 | 5 => u = .int .i64 ↑cols | 6 => ∃ A m c, u = .tuple #[.agg #[.slice A m c, .bool soft], .int .i64 0] | 7 => ∃ A m c, u = .tuple #[.agg #[.slice A m c, .bool soft], .int .i64 0] | 8 => ∃ A m c, u = .agg #[.slice A m c, .bool soft] | 9 => u = .int .i64 0 | 10 => ∃ g, u = pt g 0 | 11 => True | 12 => u = .int .i64 0 | _ => True) (fun vs => [.cells (lineV (vs 8)) (fitTo cols cs), .box (blkOf (vs 10)) 39 #[lineV (vs 8), .bool soft], .grid p 58 ↑cols L, .cells (.slice Ao cs.length co) cs, .box g9 39 #[.slice Ao cs.length co, .bool soft], .box b5 90 (av14 ⟨3, ↑row, ca, cb, n, y, A, c, cs, soft, q⟩), .grid x 33 ↑cols L]) (by kernel_rfl) (fun vs => by rfl) S51.out.pad.pad ?_ ?_
  ·apply sc
   ·intro a w' vs σ hS hl hs hk
    have f5 : a.tmps[5]?.getD undef = .pointer (some ⟨b5, 0, none⟩) := sof hk
    exact rp (pt b5 21) (by simp [execOp, Act.eval, f5, go_sem]) hl hs hS
   apply sc
   ·intro a w' vs σ hS hl hs hk
    have f209 : a.tmps[209]?.getD undef = .pointer (some ⟨b5, 21, none⟩) := sf hk 0
    have hx := (hS.box (sg (hs 5 (by decide)))).cell
    exact rp (.agg #[.slice A cs.length c, .bool soft]) (by simp [execOp, Act.eval, f209, go_sem, hx]) hl hs hS
   apply sc
   ·intro a w' vs σ hS hl hs hk
    have f1 : a.tmps[1]?.getD undef = .pointer (some ⟨x, 0, none⟩) := sof hk
    exact rp (pt x 0) (by simp [execOp, Act.eval, f1, go_sem]) hl hs hS
   apply sc
   ·intro a w' vs σ hS hl hs hk
    have f211 : a.tmps[211]?.getD undef = .pointer (some ⟨x, 0, none⟩) := sf hk 2
    exact rp (pt x 0) (by simp [execOp, Act.eval, f211, go_sem]) hl hs hS
   apply sc
   ·intro a w' vs σ hS hl hs hk
    have f212 : a.tmps[212]?.getD undef = .pointer (some ⟨x, 0, none⟩) := sf hk 3
    exact rp (pt x 0) (by simp [execOp, Act.eval, f212, go_sem]) hl hs hS
   apply sc
   ·intro a w' vs σ hS hl hs hk
    have f213 : a.tmps[213]?.getD undef = .pointer (some ⟨x, 0, none⟩) := sf hk 4
    obtain ⟨A1, c1, hB1, -, -⟩ := hS.gridRd (sg (hs 6 (by decide)))
    have hx := hB1.cell
    exact rp (.int .i64 ↑cols) (by simp [execOp, Act.eval, f213, go_sem, hx]) hl hs hS
   apply sc
   ·intro a w' vs σ hS hl hs hk
    have e210 : a.tmps.getD 210 undef = .agg #[.slice A cs.length c, .bool soft] := sv hk 1
    have e214 : a.tmps.getD 214 undef = .int .i64 ↑cols := sv hk 5
    have h0 : σ[0]? = some .none := hs 0 (by decide)
    exact ro_call (f := 25) (wanted_none rfl) rfl (by simp only [List.map_toArray, List.map_cons, List.map_nil, Act.eval, e210, e214] <;> rfl) (fun _ _ => by kernel_rfl) ((lineFit_yes A c cs soft cols hcm w' (hS.tabs HT.out) (hS.rd HA.out) hlc HV.out).mono fun e w2 ⟨v3, h1, ho, hb⟩ => ⟨_, h1, sp_set 0 (.cells v3 (fitTo cols cs)) (by kernel_rfl) (by simp) (by decide) hl hs (by rfl) ((hS.newCells hb ho).place (sg h0)) (by obtain ⟨A', c', e, -⟩ := ho.form; exact ⟨A', _, c', by rw [e]⟩), trivial⟩)
   apply sc
   ·intro a w' vs σ hS hl hs hk
    have e215 : a.tmps.getD 215 undef = vs 6 := sk_val hk 6 (by kernel_rfl) rfl rfl
    have p215 : (fun u : Value => ∃ A m c, u = .tuple #[.agg #[.slice A m c, .bool soft], .int .i64 0]) (vs 6) := (hk.1 6 (by kernel_rfl)).1
    obtain ⟨A9, n9, c9, q9⟩ := p215
    have e9 := e215.trans q9
    have f9 := gd e9
    have h0 : σ[0]? = some (.cells (tupV (vs 6)) (fitTo cols cs)) := hs 0 (by decide)
    rw [q9, show tupV (.tuple #[.agg #[.slice A9 n9 c9, .bool soft], .int .i64 0]) = .slice A9 n9 c9 from rfl] at h0
    have hSS : Objs w0 w' ((σ ++ os).set 0 (.cells (.slice A9 n9 c9) (fitTo cols cs))) := by rw [set_self (sg h0)]; exact hS
    exact rs_run (v' := .tuple #[.agg #[.slice A9 n9 c9, .bool soft], .int .i64 0]) (w' := w') (wanted_none rfl) (by simp [execOp, Act.eval, e9, f9, go_sem]) (sp_set 0 (.cells (.slice A9 n9 c9) (fitTo cols cs)) (by kernel_rfl) (by simp) (by decide) hl hs (by rfl) hSS ⟨A9, n9, c9, rfl⟩)
   apply sc
   ·intro a w' vs σ hS hl hs hk
    have e208 : a.tmps.getD 208 undef = vs 7 := sk_val hk 7 (by kernel_rfl) rfl rfl
    have p208 : (fun u : Value => ∃ A m c, u = .tuple #[.agg #[.slice A m c, .bool soft], .int .i64 0]) (vs 7) := (hk.1 7 (by kernel_rfl)).1
    obtain ⟨A9, n9, c9, q9⟩ := p208
    have e9 := e208.trans q9
    have f9 := gd e9
    have h0 : σ[0]? = some (.cells (tupV (vs 7)) (fitTo cols cs)) := hs 0 (by decide)
    rw [q9, show tupV (.tuple #[.agg #[.slice A9 n9 c9, .bool soft], .int .i64 0]) = .slice A9 n9 c9 from rfl] at h0
    have hSS : Objs w0 w' ((σ ++ os).set 0 (.cells (.slice A9 n9 c9) (fitTo cols cs))) := by rw [set_self (sg h0)]; exact hS
    exact rs_run (v' := .agg #[.slice A9 n9 c9, .bool soft]) (w' := w') (wanted_none rfl) (by simp [execOp, Act.eval, e9, f9, go_sem]) (sp_set 0 (.cells (.slice A9 n9 c9) (fitTo cols cs)) (by kernel_rfl) (by simp) (by decide) hl hs (by rfl) hSS ⟨A9, n9, c9, rfl⟩)
   apply sc
   ·intro a w' vs σ hS hl hs hk
    have e208 : a.tmps.getD 208 undef = vs 7 := sk_val hk 7 (by kernel_rfl) rfl rfl
    have p208 : (fun u : Value => ∃ A m c, u = .tuple #[.agg #[.slice A m c, .bool soft], .int .i64 0]) (vs 7) := (hk.1 7 (by kernel_rfl)).1
    obtain ⟨A9, n9, c9, q9⟩ := p208
    have e9 := e208.trans q9
    have f9 := gd e9
    exact ro_pure (v := .int .i64 0) (wanted_none rfl) (by simp [execOp, Act.eval, e9, f9, go_sem]) (sp_same (by kernel_rfl) hl hs hS rfl) trivial
   apply sc
   ·intro a w' vs σ hS hl hs hk
    have h1 : σ[1]? = some .none := hs 1 (by decide)
    exact rs_run (v' := .pointer (some ⟨w'.heap.size, 0, none⟩)) (w' := w'.alloc (.cells #[.slice none 0 0, .bool false] 39)) (wanted_none rfl) (by simp [execOp, go_sem]) (sp_set 1 (.box w'.heap.size 39 #[.slice none 0 0, .bool false]) (by kernel_rfl) (by simp) (by decide) hl hs (by rfl) (hS.alloc1.place (sg h1)) ⟨_, rfl⟩)
   apply sc
   ·intro a w' vs σ hS hl hs hk
    have e10 : a.tmps.getD 10 undef = vs 10 := sk_val hk 10 (by kernel_rfl) rfl rfl
    have p10 : (fun u : Value => ∃ g, u = .pointer (some ⟨g, 0, none⟩)) (vs 10) := (hk.1 10 (by kernel_rfl)).1
    have f10 := gd e10
    have e216 : a.tmps.getD 216 undef = vs 8 := sk_val hk 8 (by kernel_rfl) rfl rfl
    have p216 : (fun u : Value => ∃ A m c, u = .agg #[.slice A m c, .bool soft]) (vs 8) := (hk.1 8 (by kernel_rfl)).1
    have f216 := gd e216
    obtain ⟨g9', q9⟩ := p10
    obtain ⟨A7, n7, c7, q7⟩ := p216
    have h1 : σ[1]? = some (.box (blkOf (vs 10)) 39 #[.slice none 0 0, .bool false]) := hs 1 (by decide)
    rw [q9, show blkOf (.pointer (some ⟨g9', 0, none⟩)) = g9' from rfl] at h1
    obtain ⟨hx, hf, hz⟩ := (hS.box (sg h1)).facts
    exact rstep_store (w2 := (w'.setCell ⟨g9', 0, none⟩ (.slice A7 n7 c7)).setCell ⟨g9', 1, none⟩ (.bool soft)) (wanted_none rfl) rfl (by simp [execOp, Act.eval, e10, f10, e216, f216, q9, q7, hx, hf, hz, go_sem]) (sp_set 1 (.box g9' 39 #[.slice A7 n7 c7, .bool soft]) (by kernel_rfl) (by simp) (by decide) hl hs (by show Ob.box (blkOf (vs 10)) 39 #[lineV (vs 8), .bool soft] = _; rw [q9, q7]; rfl) (hS.setLine 1 _ soft (sg h1)) trivial) trivial
   apply sc
   ·intro a w' vs σ hS hl hs hk
    have f217 : a.tmps[217]?.getD undef = .int .i64 0 := sf hk 9
    exact rp (.int .i64 0) (by simp [execOp, Act.eval, f217, go_sem]) hl hs hS
   exact SSteps.nil
  ·intro vs w' hS hv
   have q0 : vs 0 = _ := hv 0 (by decide)
   have q1 : vs 1 = _ := hv 1 (by decide)
   have q2 : vs 2 = _ := hv 2 (by decide)
   have q3 : vs 3 = _ := hv 3 (by decide)
   have q4 : vs 4 = _ := hv 4 (by decide)
   have q5 : vs 5 = _ := hv 5 (by decide)
   have q9 : vs 9 = _ := hv 9 (by decide)
   have q12 : vs 12 = _ := hv 12 (by decide)
   obtain ⟨g10, q10⟩ := (show ∃ g, vs 10 = .pointer (some ⟨g, 0, none⟩) from hv 10 (by decide))
   obtain ⟨A8, n8, c8, q8⟩ := (show ∃ A m c, vs 8 = .agg #[.slice A m c, .bool soft] from hv 8 (by decide))
   obtain ⟨A7, n7, c7, q7⟩ := (show ∃ A m c, vs 7 = .tuple #[.agg #[.slice A m c, .bool soft], .int .i64 0] from hv 7 (by decide))
   obtain ⟨A6, n6, c6, q6⟩ := (show ∃ A m c, vs 6 = .tuple #[.agg #[.slice A m c, .bool soft], .int .i64 0] from hv 6 (by decide))
   rw [q10, q8, show lineV (.agg #[.slice A8 n8 c8, .bool soft]) = .slice A8 n8 c8 from rfl, show blkOf (.pointer (some ⟨g10, 0, none⟩)) = g10 from rfl] at hS
   obtain ⟨Af, cf, e, -⟩ := hS.cellsRd (k := 0) rfl
   rw [fitTo_length] at e
   rw [e] at hS q8
   clear e
   have S2 := Lib.hid hS
   simp only [putL, Act.put, Nat.zero_add, Nat.reduceAdd, List.setIfInBounds_toArray, List.set_cons_succ, List.set_cons_zero, q0, q1, q2, q3, q4, q5, q9, q12]
   clear hS hv q0 q1 q2 q3 q4 q5 q9 q12
   simp only [q10, q8, q7, q6]
   have S60 := Lib.hid (show Objs w0 _ (.cells (.slice Af cols cf) (fitTo cols cs) :: .box g10 39 #[.slice Af cols cf, .bool soft] :: .grid p 58 ↑cols L :: .cells (.slice Ao cs.length co) cs :: .box g9 39 #[.slice Ao cs.length co, .bool soft] :: .box b5 90 (av14 ⟨3, ↑row, ca, cb, n, y, A, c, cs, soft, q⟩) :: .grid x 33 ↑cols L :: os) from S2.out)
   clear S2 q10 q8 q7 q6
   clear S51
   obtain ⟨hx, hf, hz, hr, hp, hcl, hpc⟩ := (S60.out.box (k := 5) rfl).act14
   obtain ⟨Ax, cx, hBx, -, -⟩ := S60.out.gridRd (k := 6) rfl
   obtain ⟨hxx, hfx, hzx⟩ := hBx.facts
   clear hBx
   obtain ⟨hx10, hf10, hz10⟩ := (S60.out.box (k := 1) rfl).facts
   go_wp2_with fail
   refine wp_region_below (by kernel_rfl) (by kernel_rfl) ?_
   repeat (go_big_quiet_step (fail))
   refine wpQuiet_nil ?_
   intro w2 hb2
   have S61 := Lib.hid (S60.out.bel hb2)
   clear hb2 S60
   clear hx hf hz hr hp hcl hpc hxx hfx hzx
   clear hx10 hf10 hz10
   obtain ⟨hx, hf, hz, hr, hp, hcl, hpc⟩ := (S61.out.box (k := 5) rfl).act14
   obtain ⟨Ax, cx, hBx, -, -⟩ := S61.out.gridRd (k := 6) rfl
   obtain ⟨hxx, hfx, hzx⟩ := hBx.facts
   clear hBx
   go_wp2_with fail
   clear hx hf hz hr hp hcl hpc hxx hfx hzx
   obtain ⟨l, hl⟩ := get_of h0
   have HL := Lib.hid hl
   clear hl
   obtain ⟨v, hO1⟩ := S61.out.openGrid (k := 6) rfl
   obtain ⟨b, hO2⟩ := hO1.openRow (k := 0) rfl HL.out
   obtain ⟨gr, cg, rfl, -, -, -, -, -, -, -⟩ := hO2.linesxRd (k := 1) rfl
   have S64 := Lib.hid (show Objs w0 _ (.cells b l.1 :: .linesx (.slice (some ⟨gr, 0, none⟩) L.length cg) L row b :: .cells (.slice Af cols cf) (fitTo cols cs) :: .box g10 39 #[.slice Af cols cf, .bool soft] :: .grid p 58 ↑cols L :: .cells (.slice Ao cs.length co) cs :: .box g9 39 #[.slice Ao cs.length co, .bool soft] :: .box b5 90 (av14 ⟨3, ↑row, ca, cb, n, y, A, c, cs, soft, q⟩) :: .box x 33 #[.int .i64 ↑cols, .slice (some ⟨gr, 0, none⟩) L.length cg] :: os) from hO2)
   have hb0 : (0 : Int) ≤ (row : Int) := by omega
   have hb1 : (row : Int) < (L.length : Int) := by omega
   clear hO1 hO2 S61
   refine wp_region_stage (w0 := w0) (os := os) (by kernel_rfl) (by kernel_rfl) (by kernel_rfl) [(1, 8, [], fun vs => .lines (.slice (some ⟨gr, 0, none⟩) L.length cg) (L.set row ((fitTo cols cs), soft))), (2, 8, [], fun vs => .none)] [[], [], [], [8], [], [7], [3], [], [1, 2]] [.cells b l.1, .linesx (.slice (some ⟨gr, 0, none⟩) L.length cg) L row b, .cells (.slice Af cols cf) (fitTo cols cs), .box g10 39 #[.slice Af cols cf, .bool soft], .grid p 58 ↑cols L, .cells (.slice Ao cs.length co) cs, .box g9 39 #[.slice Ao cs.length co, .bool soft], .box b5 90 (av14 ⟨3, ↑row, ca, cb, n, y, A, c, cs, soft, q⟩), .box x 33 #[.int .i64 ↑cols, .slice (some ⟨gr, 0, none⟩) L.length cg]] (fun opn u => match opn with | 0 => u = pt x 0 | 1 => u = pt x 0 | 2 => u = pt x 1 | 3 => u = .slice (some ⟨gr, 0, none⟩) L.length cg | 4 => u = pt b5 1 | 5 => u = .int .i64 ↑row | 6 => u = .agg #[.slice Af cols cf, .bool soft] | 7 => u = pt gr (row * 2) | 8 => True | _ => True) (fun vs => [.cells b l.1, .lines (.slice (some ⟨gr, 0, none⟩) L.length cg) (L.set row ((fitTo cols cs), soft)), .none, .box g10 39 #[.slice Af cols cf, .bool soft], .grid p 58 ↑cols L, .cells (.slice Ao cs.length co) cs, .box g9 39 #[.slice Ao cs.length co, .bool soft], .box b5 90 (av14 ⟨3, ↑row, ca, cb, n, y, A, c, cs, soft, q⟩), .box x 33 #[.int .i64 ↑cols, .slice (some ⟨gr, 0, none⟩) L.length cg]]) (by kernel_rfl) (fun vs => by rfl) S64.out ?_ ?_
   ·apply sc
    ·intro a w' vs σ hS hl hs hk
     have f1 : a.tmps[1]?.getD undef = .pointer (some ⟨x, 0, none⟩) := sof hk
     exact rp (pt x 0) (by simp [execOp, Act.eval, f1, go_sem]) hl hs hS
    apply sc
    ·intro a w' vs σ hS hl hs hk
     have f230 : a.tmps[230]?.getD undef = .pointer (some ⟨x, 0, none⟩) := sf hk 0
     exact rp (pt x 0) (by simp [execOp, Act.eval, f230, go_sem]) hl hs hS
    apply sc
    ·intro a w' vs σ hS hl hs hk
     have f231 : a.tmps[231]?.getD undef = .pointer (some ⟨x, 0, none⟩) := sf hk 1
     exact rp (pt x 1) (by simp [execOp, Act.eval, f231, go_sem]) hl hs hS
    apply sc
    ·intro a w' vs σ hS hl hs hk
     have f232 : a.tmps[232]?.getD undef = .pointer (some ⟨x, 1, none⟩) := sf hk 2
     have hx := (hS.box (sg (hs 8 (by decide)))).cell
     exact rp (.slice (some ⟨gr, 0, none⟩) L.length cg) (by simp [execOp, Act.eval, f232, go_sem, hx]) hl hs hS
    apply sc
    ·intro a w' vs σ hS hl hs hk
     have f5 : a.tmps[5]?.getD undef = .pointer (some ⟨b5, 0, none⟩) := sof hk
     exact rp (pt b5 1) (by simp [execOp, Act.eval, f5, go_sem]) hl hs hS
    apply sc
    ·intro a w' vs σ hS hl hs hk
     have f234 : a.tmps[234]?.getD undef = .pointer (some ⟨b5, 1, none⟩) := sf hk 4
     have hx := (hS.box (sg (hs 7 (by decide)))).cell
     exact rp (.int .i64 ↑row) (by simp [execOp, Act.eval, f234, go_sem, hx]) hl hs hS
    apply sc
    ·intro a w' vs σ hS hl hs hk
     have f10 : a.tmps[10]?.getD undef = .pointer (some ⟨g10, 0, none⟩) := sof hk
     have hx := (hS.box (sg (hs 3 (by decide)))).cell
     exact rp (.agg #[.slice Af cols cf, .bool soft]) (by simp [execOp, Act.eval, f10, go_sem, hx]) hl hs hS
    apply sc
    ·intro a w' vs σ hS hl hs hk
     have f233 : a.tmps[233]?.getD undef = .slice (some ⟨gr, 0, none⟩) L.length cg := sf hk 3
     have f235 : a.tmps[235]?.getD undef = .int .i64 ↑row := sf hk 5
     exact rp (pt gr (row * 2)) (by simp [execOp, Act.eval, f233, f235, go_sem, hb0, hb1]) hl hs hS
    apply sc
    ·intro a w' vs σ hS hl hs hk
     have f237 : a.tmps[237]?.getD undef = .pointer (some ⟨gr, row * 2, none⟩) := sf hk 7
     have f236 : a.tmps[236]?.getD undef = .agg #[.slice Af cols cf, .bool soft] := sf hk 6
     have h1 : σ[1]? = some (.linesx (.slice (some ⟨gr, 0, none⟩) L.length cg) L row b) := hs 1 (by decide)
     have h2 : σ[2]? = some (.cells (.slice Af cols cf) (fitTo cols cs)) := hs 2 (by decide)
     obtain ⟨g', c', e', -, -, -, hz, hc1, hc2, hf⟩ := hS.linesxRd (sg h1)
     simp only [Value.slice.injEq, Option.some.injEq, Addr.mk.injEq, and_true, true_and] at e'
     obtain ⟨rfl, -⟩ := e'
     have hc2 := hc2 l HL.out
     exact rstep_store (w2 := (w'.setCell ⟨gr, row * 2, none⟩ (.slice Af cols cf)).setCell ⟨gr, row * 2 + 1, none⟩ (.bool soft)) (wanted_none rfl) rfl (by simp [execOp, Act.eval, f237, f236, hf, hz, hc1, hc2, go_sem]) (sp_set2 1 2 (.lines (.slice (some ⟨gr, 0, none⟩) L.length cg) (L.set row ((fitTo cols cs), soft))) .none (by decide) (by kernel_rfl) (by simp) (by simp) (by decide) (by decide) hl hs (by rfl) (by rfl) (hS.storeLine (k := 1) (j := 2) (s := soft) (sg h1) (sg h2) (by decide) HL.out) trivial) trivial
    exact SSteps.nil
   ·intro vs w' hS hv
    have q0 : vs 0 = _ := hv 0 (by decide)
    have q1 : vs 1 = _ := hv 1 (by decide)
    have q2 : vs 2 = _ := hv 2 (by decide)
    have q3 : vs 3 = _ := hv 3 (by decide)
    have q4 : vs 4 = _ := hv 4 (by decide)
    have q5 : vs 5 = _ := hv 5 (by decide)
    have q6 : vs 6 = _ := hv 6 (by decide)
    have q7 : vs 7 = _ := hv 7 (by decide)
    have S2 := Lib.hid hS
    simp only [putL, Act.put, Nat.zero_add, Nat.reduceAdd, List.setIfInBounds_toArray, List.set_cons_succ, List.set_cons_zero, q0, q1, q2, q3, q4, q5, q6, q7]
    clear hS hv q0 q1 q2 q3 q4 q5 q6 q7
    have S65 := Lib.hid (show Objs w0 _ (.grid p 58 ↑cols L :: .cells (.slice Ao cs.length co) cs :: .box g9 39 #[.slice Ao cs.length co, .bool soft] :: .box b5 90 (av14 ⟨3, ↑row, ca, cb, n, y, A, c, cs, soft, q⟩) :: .grid x 33 ↑cols (L.set row ((fitTo cols cs), soft)) :: os) from (show Objs w0 _ (.lines _ _ :: _) from (Objs.pick (σ := [_, _, _, _, _, _, _, _, _]) (os := os) S2.out [some 1, some 4, some 5, some 6, some 7, some 8] (by decide) rfl)).closeGrid (k := 4) rfl)
    clear S2 S64
    obtain ⟨hx, hf, hz, hr, hp, hcl, hpc⟩ := (S65.out.box (k := 3) rfl).act14
    obtain ⟨Ax, cx, hBx, -, -⟩ := S65.out.gridRd (k := 4) rfl
    obtain ⟨hxx, hfx, hzx⟩ := hBx.facts
    clear hBx
    obtain ⟨hx9, hf9, hz9⟩ := (S65.out.box (k := 2) rfl).facts
    go_wp2_with fail
    clear hx9 hf9 hz9
    clear hx hf hz hr hp hcl hpc hxx hfx hzx
    have hcon := SetLine_yes (i := row) (n := cs.length) (A := Ao) (c := co) (cs := cs) (s := soft) HT.out S65.out hc hcm HL.out rfl (fun w' ⟨F, hF⟩ _ => (own_rdc hF.1).2) hlc HV.out
    refine hcon.mono ?_
    rintro e w3 ⟨rfl, hS⟩
    have S66 := Lib.hid hS
    clear hS hcon S65
    obtain ⟨hx, hf, hz, hr, hp, hcl, hpc⟩ := (S66.out.box (k := 3) rfl).act14
    obtain ⟨Ax, cx, hBx, -, -⟩ := S66.out.gridRd (k := 4) rfl
    obtain ⟨hxx, hfx, hzx⟩ := hBx.facts
    clear hBx
    obtain ⟨hx9, hf9, hz9⟩ := (S66.out.box (k := 2) rfl).facts
    go_wp2_with fail
    clear hx9 hf9 hz9
    clear hx hf hz hr hp hcl hpc hxx hfx hzx
    go_loopw [13] (fun vi wr => ∃ (k : Nat) (mc : List Cell), k ≤ cs.length ∧ vi = .int .i64 k ∧ Hid (mc.length = cs.length) ∧ Objs w0 wr (.grid p 58 ↑cols (L.set row ((fitTo cols cs), soft)) :: .cells (.slice Ao cs.length co) mc :: .box g9 39 #[.slice Ao cs.length co, .bool soft] :: .box b5 90 (av14 ⟨3, ↑row, ca, cb, n, y, A, c, cs, soft, q⟩) :: .grid x 33 ↑cols (L.set row ((fitTo cols cs), soft)) :: os)) (fun vi _ => cs.length - (intOf vi).toNat)
    case atStart => exact ⟨0, cs, Nat.zero_le _, rfl, Lib.hid rfl, S66.out⟩
    case round =>
    clear S66
    obtain ⟨k, mc, hk, rfl, HMC, hS⟩ := hrel
    obtain ⟨hx9, hf9, hz9⟩ := (hS.box (k := 2) rfl).facts
    by_cases hlt : k < cs.length
    case neg =>
     have S70 := Lib.hid hS
     clear hS
     go_wp2_with fail
     go_ret
     exact ⟨rfl, by rw [HN.out]; exact (Objs.pick (σ := [_, _, _, _, _]) (os := os) S70.out [some 0, some 4] (by decide) rfl)⟩
    obtain ⟨xm, hxm⟩ := get_of (show k < mc.length by rw [HMC.out]; exact hlt)
    obtain ⟨gm, cm, e, hzm, hcw, hfm⟩ := hS.ownAt (k := 1) (j := k) rfl hxm
    simp only [Value.slice.injEq] at e
    obtain ⟨rfl, -, rfl⟩ := e
    have hS2 := hS.setWidth (k := 1) rfl hxm 9
    rw [cellW_at hxm] at hS2
    have S71 := Lib.hid hS2
    have hb0 : (0 : Int) ≤ (k : Int) := by omega
    have hb1 : (k : Int) < (cs.length : Int) := by omega
    clear hS hS2
    go_wp2_with fail
    go_roundw
    case rel => exact ⟨k + 1, set9 k mc, by omega, by go_num, Lib.hid (by rw [set9_length]; exact HMC.out), S71.out⟩
    case measure => simp [intOf]; omega
end
end Go.Proofs.YtppijfjigcoifaaDoor

namespace Go.Proofs.YtppijfjigcoifaaDoor
open Go.RowKit

section
variable {w0 w : World} {os : List Ob} {p x cols : Nat} {L : List Ln}
set_option maxRecDepth 100000 in
set_option maxHeartbeats 8000000 in
theorem does_roll_any_a (row : Int) (h0 : row < 0 ∨ (0 ≤ row ∧ (L.length : Int) ≤ row) ∨ (0 ≤ row ∧ row < (L.length : Int))) (ca cb n : Int) (y : Cell) (A : Option Addr) (c : Nat) (cs : List Cell) (soft : Bool) (q : Pen) (hT : Tabs w0) (hS : Objs w0 w (.grid p 58 cols L :: .grid x 33 cols L :: os)) (hc : 0 < cols) (hcm : cols ≤ 1000) (hR : Rect cols L) (hL : 0 < L.length) (hLm : L.length ≤ 1000) (hA : RdC w0 A c cs) (hlc : cs.length ≤ 100000) (ia : -9223372036854775808 ≤ ca ∧ ca ≤ 9223372036854775807) (ib : -9223372036854775808 ≤ cb ∧ cb ≤ 9223372036854775807) (i_n : -9223372036854775808 ≤ n ∧ n ≤ 9223372036854775807) (g1 : ca < 0) :
  Calls Tryd.prog 43 #[.pointer (some ⟨p, 0, none⟩), .pointer (some ⟨x, 0, none⟩), .agg (av14 ⟨5, row, ca, cb, n, y, A, c, cs, soft, q⟩)] w fun e w' => e = .returned (.bool true) ∧ Objs w0 w' (.grid p 58 cols (act14N ⟨5, row, ca, cb, n, y, A, c, cs, soft, q⟩ cols L) :: .grid x 33 cols (act14N ⟨5, row, ca, cb, n, y, A, c, cs, soft, q⟩ cols L) :: os) := by
 have HT := Lib.hid hT
 have S0 := Lib.hid hS
 have HR := Lib.hid hR
 have HA := Lib.hid hA
 have HM := Lib.hid (hR.mill hcm)
 have hlm2 : L.length ≤ 100000 := by omega
 have hlm3 : L.length ≤ 1000000 := by omega
 have HIA := Lib.hid ia
 have HIB := Lib.hid ib
 have HIN := Lib.hid i_n
 clear hT hS hR hA ia ib i_n
 rcases h0 with h0 | ⟨h0, h1⟩ | ⟨h0, h1⟩
 all_goals
  have HE := Lib.hid (show rolE ca cb q L.length = 3 by unfold rolE; rw [if_pos (by omega)])
  have HN := Lib.hid (show act14N ⟨5, row, ca, cb, n, y, A, c, cs, soft, q⟩ cols L = L by simp [act14N, HE.out])
  go_enter Tryd.func43, Tryd.ntmps43
  go_upto_region 1 with (fail)
  refine at_objsC S0.out.alloc1 (fun W hW => ?_)
  generalize w.heap.size = b5 at hW ⊢
  have S1 := Lib.hid hW
  clear hW S0
  obtain ⟨hx, hf, hz, hr, hp, hcl, hpc⟩ := (S1.out.box (k := 0) rfl).act14
  obtain ⟨Ax, cx, hBx, -, -⟩ := S1.out.gridRd (k := 2) rfl
  obtain ⟨hxx, hfx, hzx⟩ := hBx.facts
  clear hBx
  first | (have d1 : decide ((0 : Int) ≤ row) = false := decide_eq_false (by omega)) | (have d1 : decide ((0 : Int) ≤ row) = true := decide_eq_true (by omega))
  first | (have d2 : decide (row < (L.length : Int)) = false := decide_eq_false (by omega)) | (have d2 : decide (row < (L.length : Int)) = true := decide_eq_true (by omega))
  refine wp_region_below (by kernel_rfl) (by kernel_rfl) ?_
  repeat (go_big_quiet_step (fail))
  refine wpQuiet_nil ?_
  intro w2 hb2
  have S2 := Lib.hid (S1.out.bel hb2)
  clear hb2 S1
  clear hx hf hz hr hp hcl hpc hxx hfx hzx
  obtain ⟨hx, hf, hz, hr, hp, hcl, hpc⟩ := (S2.out.box (k := 0) rfl).act14
  obtain ⟨Ax, cx, hBx, -, -⟩ := S2.out.gridRd (k := 2) rfl
  obtain ⟨hxx, hfx, hzx⟩ := hBx.facts
  clear hBx
  go_wp2_with fail
  have d3 : decide (ca < (0 : Int)) = true := decide_eq_true (by omega)
  clear hx hf hz hr hp hcl hpc hxx hfx hzx
  refine at_objsC (S2.out.alloc1 (c1 := #[.int .i64 ca, .int .i64 cb]) (t1 := 106)) (fun W3 hW => ?_)
  generalize w2.heap.size = b14 at hW ⊢
  have S10 := Lib.hid hW
  clear hW S2
  obtain ⟨hx, hf, hz, hr, hp, hcl, hpc⟩ := (S10.out.box (k := 1) rfl).act14
  obtain ⟨Ax, cx, hBx, -, -⟩ := S10.out.gridRd (k := 3) rfl
  obtain ⟨hxx, hfx, hzx⟩ := hBx.facts
  clear hBx
  obtain ⟨hxr, hfr, hzr⟩ := (S10.out.box (k := 0) rfl).facts
  refine wp_region_below (by kernel_rfl) (by kernel_rfl) ?_
  repeat (go_big_quiet_step (fail))
  refine wpQuiet_nil ?_
  intro w2 hb2
  have S11 := Lib.hid (S10.out.bel hb2)
  clear hb2 S10
  clear hx hf hz hr hp hcl hpc hxx hfx hzx
  clear hxr hfr hzr
  obtain ⟨hx, hf, hz, hr, hp, hcl, hpc⟩ := (S11.out.box (k := 1) rfl).act14
  obtain ⟨Ax, cx, hBx, -, -⟩ := S11.out.gridRd (k := 3) rfl
  obtain ⟨hxx, hfx, hzx⟩ := hBx.facts
  clear hBx
  obtain ⟨hxr, hfr, hzr⟩ := (S11.out.box (k := 0) rfl).facts
  go_wp2_with fail
  clear hxr hfr hzr
  have hcon := RollN q HT.out S11.out (k := 2) rfl hc (top := ca) (bot := cb) (n := n) (by rw [HE.out]; decide)
  rw [HE.out] at hcon
  refine hcon.mono ?_
  rintro e w3 ⟨rfl, hS⟩
  have S12 := Lib.hid hS
  clear hS hcon S11
  clear hx hf hz hr hp hcl hpc hxx hfx hzx
  obtain ⟨hx, hf, hz, hr, hp, hcl, hpc⟩ := (S12.out.box (k := 1) rfl).act14
  obtain ⟨Ax, cx, hBx, -, -⟩ := S12.out.gridRd (k := 3) rfl
  obtain ⟨hxx, hfx, hzx⟩ := hBx.facts
  clear hBx
  obtain ⟨hxr, hfr, hzr⟩ := (S12.out.box (k := 0) rfl).facts
  go_wp2_with fail
  clear hxr hfr hzr
  clear hx hf hz hr hp hcl hpc hxx hfx hzx
  have hcon := r14SameLines_any none none 0 0 [] [] w3 (RdL.nil _) (RdL.nil _) (by simp) (by simp) (fun l h => by simp at h) (fun l h => by simp at h)
  refine hcon.mono ?_
  rintro e w3 ⟨rfl, hb⟩
  have S90 := Lib.hid (S12.out.bel hb)
  clear hb hcon S12
  go_wp2_with fail
  go_loopw [18, 19] (fun vi _ wr => vi = .int .i64 0 ∧ Objs w0 wr (.box b14 106 #[.int .i64 ca, .int .i64 cb] :: .box b5 90 (av14 ⟨5, row, ca, cb, n, y, A, c, cs, soft, q⟩) :: .grid p 58 ↑cols L :: .grid x 33 ↑cols L :: os)) (fun _ _ _ => 0)
  case atStart => exact ⟨rfl, S90.out⟩
  case round =>
  clear S90
  obtain ⟨rfl, hS⟩ := hrel
  have S91 := Lib.hid hS
  clear hS
  go_wp2_with fail
  go_ret
  exact ⟨rfl, by rw [HN.out]; exact S91.out.tail.tail⟩
set_option maxRecDepth 100000 in
set_option maxHeartbeats 8000000 in
theorem does_roll_any_b (row : Int) (h0 : row < 0 ∨ (0 ≤ row ∧ (L.length : Int) ≤ row) ∨ (0 ≤ row ∧ row < (L.length : Int))) (ca cb n : Int) (y : Cell) (A : Option Addr) (c : Nat) (cs : List Cell) (soft : Bool) (q : Pen) (hT : Tabs w0) (hS : Objs w0 w (.grid p 58 cols L :: .grid x 33 cols L :: os)) (hc : 0 < cols) (hcm : cols ≤ 1000) (hR : Rect cols L) (hL : 0 < L.length) (hLm : L.length ≤ 1000) (hA : RdC w0 A c cs) (hlc : cs.length ≤ 100000) (ia : -9223372036854775808 ≤ ca ∧ ca ≤ 9223372036854775807) (ib : -9223372036854775808 ≤ cb ∧ cb ≤ 9223372036854775807) (i_n : -9223372036854775808 ≤ n ∧ n ≤ 9223372036854775807) (g1 : 0 ≤ ca) (g2 : cb < ca) :
  Calls Tryd.prog 43 #[.pointer (some ⟨p, 0, none⟩), .pointer (some ⟨x, 0, none⟩), .agg (av14 ⟨5, row, ca, cb, n, y, A, c, cs, soft, q⟩)] w fun e w' => e = .returned (.bool true) ∧ Objs w0 w' (.grid p 58 cols (act14N ⟨5, row, ca, cb, n, y, A, c, cs, soft, q⟩ cols L) :: .grid x 33 cols (act14N ⟨5, row, ca, cb, n, y, A, c, cs, soft, q⟩ cols L) :: os) := by
 have HT := Lib.hid hT
 have S0 := Lib.hid hS
 have HR := Lib.hid hR
 have HA := Lib.hid hA
 have HM := Lib.hid (hR.mill hcm)
 have hlm2 : L.length ≤ 100000 := by omega
 have hlm3 : L.length ≤ 1000000 := by omega
 have HIA := Lib.hid ia
 have HIB := Lib.hid ib
 have HIN := Lib.hid i_n
 clear hT hS hR hA ia ib i_n
 rcases h0 with h0 | ⟨h0, h1⟩ | ⟨h0, h1⟩
 all_goals
  have HE := Lib.hid (show rolE ca cb q L.length = 3 by unfold rolE; rw [if_pos (by omega)])
  have HN := Lib.hid (show act14N ⟨5, row, ca, cb, n, y, A, c, cs, soft, q⟩ cols L = L by simp [act14N, HE.out])
  go_enter Tryd.func43, Tryd.ntmps43
  go_upto_region 1 with (fail)
  refine at_objsC S0.out.alloc1 (fun W hW => ?_)
  generalize w.heap.size = b5 at hW ⊢
  have S1 := Lib.hid hW
  clear hW S0
  obtain ⟨hx, hf, hz, hr, hp, hcl, hpc⟩ := (S1.out.box (k := 0) rfl).act14
  obtain ⟨Ax, cx, hBx, -, -⟩ := S1.out.gridRd (k := 2) rfl
  obtain ⟨hxx, hfx, hzx⟩ := hBx.facts
  clear hBx
  first | (have d1 : decide ((0 : Int) ≤ row) = false := decide_eq_false (by omega)) | (have d1 : decide ((0 : Int) ≤ row) = true := decide_eq_true (by omega))
  first | (have d2 : decide (row < (L.length : Int)) = false := decide_eq_false (by omega)) | (have d2 : decide (row < (L.length : Int)) = true := decide_eq_true (by omega))
  refine wp_region_below (by kernel_rfl) (by kernel_rfl) ?_
  repeat (go_big_quiet_step (fail))
  refine wpQuiet_nil ?_
  intro w2 hb2
  have S2 := Lib.hid (S1.out.bel hb2)
  clear hb2 S1
  clear hx hf hz hr hp hcl hpc hxx hfx hzx
  obtain ⟨hx, hf, hz, hr, hp, hcl, hpc⟩ := (S2.out.box (k := 0) rfl).act14
  obtain ⟨Ax, cx, hBx, -, -⟩ := S2.out.gridRd (k := 2) rfl
  obtain ⟨hxx, hfx, hzx⟩ := hBx.facts
  clear hBx
  go_wp2_with fail
  have d3 : decide (ca < (0 : Int)) = false := decide_eq_false (by omega)
  have d4 : decide (cb < ca) = true := decide_eq_true (by omega)
  clear hx hf hz hr hp hcl hpc hxx hfx hzx
  refine at_objsC (S2.out.alloc1 (c1 := #[.int .i64 ca, .int .i64 cb]) (t1 := 106)) (fun W3 hW => ?_)
  generalize w2.heap.size = b14 at hW ⊢
  have S10 := Lib.hid hW
  clear hW S2
  obtain ⟨hx, hf, hz, hr, hp, hcl, hpc⟩ := (S10.out.box (k := 1) rfl).act14
  obtain ⟨Ax, cx, hBx, -, -⟩ := S10.out.gridRd (k := 3) rfl
  obtain ⟨hxx, hfx, hzx⟩ := hBx.facts
  clear hBx
  obtain ⟨hxr, hfr, hzr⟩ := (S10.out.box (k := 0) rfl).facts
  refine wp_region_below (by kernel_rfl) (by kernel_rfl) ?_
  repeat (go_big_quiet_step (fail))
  refine wpQuiet_nil ?_
  intro w2 hb2
  have S11 := Lib.hid (S10.out.bel hb2)
  clear hb2 S10
  clear hx hf hz hr hp hcl hpc hxx hfx hzx
  clear hxr hfr hzr
  obtain ⟨hx, hf, hz, hr, hp, hcl, hpc⟩ := (S11.out.box (k := 1) rfl).act14
  obtain ⟨Ax, cx, hBx, -, -⟩ := S11.out.gridRd (k := 3) rfl
  obtain ⟨hxx, hfx, hzx⟩ := hBx.facts
  clear hBx
  obtain ⟨hxr, hfr, hzr⟩ := (S11.out.box (k := 0) rfl).facts
  go_wp2_with fail
  clear hxr hfr hzr
  have hcon := RollN q HT.out S11.out (k := 2) rfl hc (top := ca) (bot := cb) (n := n) (by rw [HE.out]; decide)
  rw [HE.out] at hcon
  refine hcon.mono ?_
  rintro e w3 ⟨rfl, hS⟩
  have S12 := Lib.hid hS
  clear hS hcon S11
  clear hx hf hz hr hp hcl hpc hxx hfx hzx
  obtain ⟨hx, hf, hz, hr, hp, hcl, hpc⟩ := (S12.out.box (k := 1) rfl).act14
  obtain ⟨Ax, cx, hBx, -, -⟩ := S12.out.gridRd (k := 3) rfl
  obtain ⟨hxx, hfx, hzx⟩ := hBx.facts
  clear hBx
  obtain ⟨hxr, hfr, hzr⟩ := (S12.out.box (k := 0) rfl).facts
  go_wp2_with fail
  clear hxr hfr hzr
  clear hx hf hz hr hp hcl hpc hxx hfx hzx
  have hcon := r14SameLines_any none none 0 0 [] [] w3 (RdL.nil _) (RdL.nil _) (by simp) (by simp) (fun l h => by simp at h) (fun l h => by simp at h)
  refine hcon.mono ?_
  rintro e w3 ⟨rfl, hb⟩
  have S90 := Lib.hid (S12.out.bel hb)
  clear hb hcon S12
  go_wp2_with fail
  go_loopw [18, 19] (fun vi _ wr => vi = .int .i64 0 ∧ Objs w0 wr (.box b14 106 #[.int .i64 ca, .int .i64 cb] :: .box b5 90 (av14 ⟨5, row, ca, cb, n, y, A, c, cs, soft, q⟩) :: .grid p 58 ↑cols L :: .grid x 33 ↑cols L :: os)) (fun _ _ _ => 0)
  case atStart => exact ⟨rfl, S90.out⟩
  case round =>
  clear S90
  obtain ⟨rfl, hS⟩ := hrel
  have S91 := Lib.hid hS
  clear hS
  go_wp2_with fail
  go_ret
  exact ⟨rfl, by rw [HN.out]; exact S91.out.tail.tail⟩
set_option maxRecDepth 100000 in
set_option maxHeartbeats 8000000 in
theorem does_roll_any_c (row : Int) (h0 : row < 0 ∨ (0 ≤ row ∧ (L.length : Int) ≤ row) ∨ (0 ≤ row ∧ row < (L.length : Int))) (ca cb n : Int) (y : Cell) (A : Option Addr) (c : Nat) (cs : List Cell) (soft : Bool) (q : Pen) (hT : Tabs w0) (hS : Objs w0 w (.grid p 58 cols L :: .grid x 33 cols L :: os)) (hc : 0 < cols) (hcm : cols ≤ 1000) (hR : Rect cols L) (hL : 0 < L.length) (hLm : L.length ≤ 1000) (hA : RdC w0 A c cs) (hlc : cs.length ≤ 100000) (ia : -9223372036854775808 ≤ ca ∧ ca ≤ 9223372036854775807) (ib : -9223372036854775808 ≤ cb ∧ cb ≤ 9223372036854775807) (i_n : -9223372036854775808 ≤ n ∧ n ≤ 9223372036854775807) (g1 : 0 ≤ ca) (g2 : ca ≤ cb) (g3 : (L.length : Int) ≤ cb) :
  Calls Tryd.prog 43 #[.pointer (some ⟨p, 0, none⟩), .pointer (some ⟨x, 0, none⟩), .agg (av14 ⟨5, row, ca, cb, n, y, A, c, cs, soft, q⟩)] w fun e w' => e = .returned (.bool true) ∧ Objs w0 w' (.grid p 58 cols (act14N ⟨5, row, ca, cb, n, y, A, c, cs, soft, q⟩ cols L) :: .grid x 33 cols (act14N ⟨5, row, ca, cb, n, y, A, c, cs, soft, q⟩ cols L) :: os) := by
 have HT := Lib.hid hT
 have S0 := Lib.hid hS
 have HR := Lib.hid hR
 have HA := Lib.hid hA
 have HM := Lib.hid (hR.mill hcm)
 have hlm2 : L.length ≤ 100000 := by omega
 have hlm3 : L.length ≤ 1000000 := by omega
 have HIA := Lib.hid ia
 have HIB := Lib.hid ib
 have HIN := Lib.hid i_n
 clear hT hS hR hA ia ib i_n
 rcases h0 with h0 | ⟨h0, h1⟩ | ⟨h0, h1⟩
 all_goals
  have HE := Lib.hid (show rolE ca cb q L.length = 3 by unfold rolE; rw [if_pos (by omega)])
  have HN := Lib.hid (show act14N ⟨5, row, ca, cb, n, y, A, c, cs, soft, q⟩ cols L = L by simp [act14N, HE.out])
  go_enter Tryd.func43, Tryd.ntmps43
  go_upto_region 1 with (fail)
  refine at_objsC S0.out.alloc1 (fun W hW => ?_)
  generalize w.heap.size = b5 at hW ⊢
  have S1 := Lib.hid hW
  clear hW S0
  obtain ⟨hx, hf, hz, hr, hp, hcl, hpc⟩ := (S1.out.box (k := 0) rfl).act14
  obtain ⟨Ax, cx, hBx, -, -⟩ := S1.out.gridRd (k := 2) rfl
  obtain ⟨hxx, hfx, hzx⟩ := hBx.facts
  clear hBx
  first | (have d1 : decide ((0 : Int) ≤ row) = false := decide_eq_false (by omega)) | (have d1 : decide ((0 : Int) ≤ row) = true := decide_eq_true (by omega))
  first | (have d2 : decide (row < (L.length : Int)) = false := decide_eq_false (by omega)) | (have d2 : decide (row < (L.length : Int)) = true := decide_eq_true (by omega))
  refine wp_region_below (by kernel_rfl) (by kernel_rfl) ?_
  repeat (go_big_quiet_step (fail))
  refine wpQuiet_nil ?_
  intro w2 hb2
  have S2 := Lib.hid (S1.out.bel hb2)
  clear hb2 S1
  clear hx hf hz hr hp hcl hpc hxx hfx hzx
  obtain ⟨hx, hf, hz, hr, hp, hcl, hpc⟩ := (S2.out.box (k := 0) rfl).act14
  obtain ⟨Ax, cx, hBx, -, -⟩ := S2.out.gridRd (k := 2) rfl
  obtain ⟨hxx, hfx, hzx⟩ := hBx.facts
  clear hBx
  go_wp2_with fail
  have d3 : decide (ca < (0 : Int)) = false := decide_eq_false (by omega)
  have d4 : decide (cb < ca) = false := decide_eq_false (by omega)
  have d5 : decide ((L.length : Int) ≤ cb) = true := decide_eq_true (by omega)
  clear hx hf hz hr hp hcl hpc hxx hfx hzx
  refine at_objsC (S2.out.alloc1 (c1 := #[.int .i64 ca, .int .i64 cb]) (t1 := 106)) (fun W3 hW => ?_)
  generalize w2.heap.size = b14 at hW ⊢
  have S10 := Lib.hid hW
  clear hW S2
  obtain ⟨hx, hf, hz, hr, hp, hcl, hpc⟩ := (S10.out.box (k := 1) rfl).act14
  obtain ⟨Ax, cx, hBx, -, -⟩ := S10.out.gridRd (k := 3) rfl
  obtain ⟨hxx, hfx, hzx⟩ := hBx.facts
  clear hBx
  obtain ⟨hxr, hfr, hzr⟩ := (S10.out.box (k := 0) rfl).facts
  refine wp_region_below (by kernel_rfl) (by kernel_rfl) ?_
  repeat (go_big_quiet_step (fail))
  refine wpQuiet_nil ?_
  intro w2 hb2
  have S11 := Lib.hid (S10.out.bel hb2)
  clear hb2 S10
  clear hx hf hz hr hp hcl hpc hxx hfx hzx
  clear hxr hfr hzr
  obtain ⟨hx, hf, hz, hr, hp, hcl, hpc⟩ := (S11.out.box (k := 1) rfl).act14
  obtain ⟨Ax, cx, hBx, -, -⟩ := S11.out.gridRd (k := 3) rfl
  obtain ⟨hxx, hfx, hzx⟩ := hBx.facts
  clear hBx
  obtain ⟨hxr, hfr, hzr⟩ := (S11.out.box (k := 0) rfl).facts
  go_wp2_with fail
  clear hxr hfr hzr
  have hcon := RollN q HT.out S11.out (k := 2) rfl hc (top := ca) (bot := cb) (n := n) (by rw [HE.out]; decide)
  rw [HE.out] at hcon
  refine hcon.mono ?_
  rintro e w3 ⟨rfl, hS⟩
  have S12 := Lib.hid hS
  clear hS hcon S11
  clear hx hf hz hr hp hcl hpc hxx hfx hzx
  obtain ⟨hx, hf, hz, hr, hp, hcl, hpc⟩ := (S12.out.box (k := 1) rfl).act14
  obtain ⟨Ax, cx, hBx, -, -⟩ := S12.out.gridRd (k := 3) rfl
  obtain ⟨hxx, hfx, hzx⟩ := hBx.facts
  clear hBx
  obtain ⟨hxr, hfr, hzr⟩ := (S12.out.box (k := 0) rfl).facts
  go_wp2_with fail
  clear hxr hfr hzr
  clear hx hf hz hr hp hcl hpc hxx hfx hzx
  have hcon := r14SameLines_any none none 0 0 [] [] w3 (RdL.nil _) (RdL.nil _) (by simp) (by simp) (fun l h => by simp at h) (fun l h => by simp at h)
  refine hcon.mono ?_
  rintro e w3 ⟨rfl, hb⟩
  have S90 := Lib.hid (S12.out.bel hb)
  clear hb hcon S12
  go_wp2_with fail
  go_loopw [18, 19] (fun vi _ wr => vi = .int .i64 0 ∧ Objs w0 wr (.box b14 106 #[.int .i64 ca, .int .i64 cb] :: .box b5 90 (av14 ⟨5, row, ca, cb, n, y, A, c, cs, soft, q⟩) :: .grid p 58 ↑cols L :: .grid x 33 ↑cols L :: os)) (fun _ _ _ => 0)
  case atStart => exact ⟨rfl, S90.out⟩
  case round =>
  clear S90
  obtain ⟨rfl, hS⟩ := hrel
  have S91 := Lib.hid hS
  clear hS
  go_wp2_with fail
  go_ret
  exact ⟨rfl, by rw [HN.out]; exact S91.out.tail.tail⟩
set_option maxRecDepth 100000 in
set_option maxHeartbeats 8000000 in
theorem does_roll_any_pen (row : Int) (h0 : row < 0 ∨ (0 ≤ row ∧ (L.length : Int) ≤ row) ∨ (0 ≤ row ∧ row < (L.length : Int))) (ca cb n : Int) (y : Cell) (A : Option Addr) (c : Nat) (cs : List Cell) (soft : Bool) (q : Pen) (hT : Tabs w0) (hS : Objs w0 w (.grid p 58 cols L :: .grid x 33 cols L :: os)) (hc : 0 < cols) (hcm : cols ≤ 1000) (hR : Rect cols L) (hL : 0 < L.length) (hLm : L.length ≤ 1000) (hA : RdC w0 A c cs) (hlc : cs.length ≤ 100000) (ia : -9223372036854775808 ≤ ca ∧ ca ≤ 9223372036854775807) (ib : -9223372036854775808 ≤ cb ∧ cb ≤ 9223372036854775807) (i_n : -9223372036854775808 ≤ n ∧ n ≤ 9223372036854775807) (g1 : 0 ≤ ca) (g2 : ca ≤ cb) (g3 : cb < (L.length : Int)) (hq : q.ok = false) :
  Calls Tryd.prog 43 #[.pointer (some ⟨p, 0, none⟩), .pointer (some ⟨x, 0, none⟩), .agg (av14 ⟨5, row, ca, cb, n, y, A, c, cs, soft, q⟩)] w fun e w' => e = .returned (.bool true) ∧ Objs w0 w' (.grid p 58 cols (act14N ⟨5, row, ca, cb, n, y, A, c, cs, soft, q⟩ cols L) :: .grid x 33 cols (act14N ⟨5, row, ca, cb, n, y, A, c, cs, soft, q⟩ cols L) :: os) := by
 have HT := Lib.hid hT
 have S0 := Lib.hid hS
 have HR := Lib.hid hR
 have HA := Lib.hid hA
 have HM := Lib.hid (hR.mill hcm)
 have hlm2 : L.length ≤ 100000 := by omega
 have hlm3 : L.length ≤ 1000000 := by omega
 have HIA := Lib.hid ia
 have HIB := Lib.hid ib
 have HIN := Lib.hid i_n
 clear hT hS hR hA ia ib i_n
 rcases h0 with h0 | ⟨h0, h1⟩ | ⟨h0, h1⟩
 all_goals
  have HE := Lib.hid (show rolE ca cb q L.length = 2 by unfold rolE; rw [if_neg (by omega), if_pos (by rw [hq]; decide)])
  have HN := Lib.hid (show act14N ⟨5, row, ca, cb, n, y, A, c, cs, soft, q⟩ cols L = L by simp [act14N, HE.out])
  have HQ := Lib.hid hq
  clear hq
  go_enter Tryd.func43, Tryd.ntmps43
  go_upto_region 1 with (fail)
  refine at_objsC S0.out.alloc1 (fun W hW => ?_)
  generalize w.heap.size = b5 at hW ⊢
  have S1 := Lib.hid hW
  clear hW S0
  obtain ⟨hx, hf, hz, hr, hp, hcl, hpc⟩ := (S1.out.box (k := 0) rfl).act14
  obtain ⟨Ax, cx, hBx, -, -⟩ := S1.out.gridRd (k := 2) rfl
  obtain ⟨hxx, hfx, hzx⟩ := hBx.facts
  clear hBx
  first | (have d1 : decide ((0 : Int) ≤ row) = false := decide_eq_false (by omega)) | (have d1 : decide ((0 : Int) ≤ row) = true := decide_eq_true (by omega))
  first | (have d2 : decide (row < (L.length : Int)) = false := decide_eq_false (by omega)) | (have d2 : decide (row < (L.length : Int)) = true := decide_eq_true (by omega))
  refine wp_region_below (by kernel_rfl) (by kernel_rfl) ?_
  repeat (go_big_quiet_step (fail))
  refine wpQuiet_nil ?_
  intro w2 hb2
  have S2 := Lib.hid (S1.out.bel hb2)
  clear hb2 S1
  clear hx hf hz hr hp hcl hpc hxx hfx hzx
  obtain ⟨hx, hf, hz, hr, hp, hcl, hpc⟩ := (S2.out.box (k := 0) rfl).act14
  obtain ⟨Ax, cx, hBx, -, -⟩ := S2.out.gridRd (k := 2) rfl
  obtain ⟨hxx, hfx, hzx⟩ := hBx.facts
  clear hBx
  go_wp2_with fail
  have d3 : decide (ca < (0 : Int)) = false := decide_eq_false (by omega)
  have d4 : decide (cb < ca) = false := decide_eq_false (by omega)
  have d5 : decide ((L.length : Int) ≤ cb) = false := decide_eq_false (by omega)
  clear hx hf hz hr hp hcl hpc hxx hfx hzx
  refine at_objsC (S2.out.alloc1 (c1 := #[.int .i64 ca, .int .i64 cb]) (t1 := 106)) (fun W3 hW => ?_)
  generalize w2.heap.size = b14 at hW ⊢
  have S10 := Lib.hid hW
  clear hW S2
  obtain ⟨hx, hf, hz, hr, hp, hcl, hpc⟩ := (S10.out.box (k := 1) rfl).act14
  obtain ⟨Ax, cx, hBx, -, -⟩ := S10.out.gridRd (k := 3) rfl
  obtain ⟨hxx, hfx, hzx⟩ := hBx.facts
  clear hBx
  obtain ⟨hxr, hfr, hzr⟩ := (S10.out.box (k := 0) rfl).facts
  refine wp_region_below (by kernel_rfl) (by kernel_rfl) ?_
  repeat (go_big_quiet_step (fail))
  refine wpQuiet_nil ?_
  intro w2 hb2
  have S11 := Lib.hid (S10.out.bel hb2)
  clear hb2 S10
  clear hx hf hz hr hp hcl hpc hxx hfx hzx
  clear hxr hfr hzr
  obtain ⟨hx, hf, hz, hr, hp, hcl, hpc⟩ := (S11.out.box (k := 1) rfl).act14
  obtain ⟨Ax, cx, hBx, -, -⟩ := S11.out.gridRd (k := 3) rfl
  obtain ⟨hxx, hfx, hzx⟩ := hBx.facts
  clear hBx
  obtain ⟨hxr, hfr, hzr⟩ := (S11.out.box (k := 0) rfl).facts
  go_wp2_with fail
  clear hxr hfr hzr
  have hcon := l14inked_any q HT.out S11.out
  rw [HQ.out] at hcon
  refine hcon.mono ?_
  rintro e w3 ⟨rfl, hS⟩
  have S12 := Lib.hid hS
  clear hS hcon S11
  clear hx hf hz hr hp hcl hpc hxx hfx hzx
  obtain ⟨hx, hf, hz, hr, hp, hcl, hpc⟩ := (S12.out.box (k := 1) rfl).act14
  obtain ⟨Ax, cx, hBx, -, -⟩ := S12.out.gridRd (k := 3) rfl
  obtain ⟨hxx, hfx, hzx⟩ := hBx.facts
  clear hBx
  obtain ⟨hxr, hfr, hzr⟩ := (S12.out.box (k := 0) rfl).facts
  go_wp2_with fail
  clear hxr hfr hzr
  have hcon := RollN q HT.out S12.out (k := 2) rfl hc (top := ca) (bot := cb) (n := n) (by rw [HE.out]; decide)
  rw [HE.out] at hcon
  refine hcon.mono ?_
  rintro e w3 ⟨rfl, hS⟩
  have S13 := Lib.hid hS
  clear hS hcon S12
  clear hx hf hz hr hp hcl hpc hxx hfx hzx
  obtain ⟨hx, hf, hz, hr, hp, hcl, hpc⟩ := (S13.out.box (k := 1) rfl).act14
  obtain ⟨Ax, cx, hBx, -, -⟩ := S13.out.gridRd (k := 3) rfl
  obtain ⟨hxx, hfx, hzx⟩ := hBx.facts
  clear hBx
  obtain ⟨hxr, hfr, hzr⟩ := (S13.out.box (k := 0) rfl).facts
  go_wp2_with fail
  clear hxr hfr hzr
  clear hx hf hz hr hp hcl hpc hxx hfx hzx
  have hcon := r14SameLines_any none none 0 0 [] [] w3 (RdL.nil _) (RdL.nil _) (by simp) (by simp) (fun l h => by simp at h) (fun l h => by simp at h)
  refine hcon.mono ?_
  rintro e w3 ⟨rfl, hb⟩
  have S90 := Lib.hid (S13.out.bel hb)
  clear hb hcon S13
  go_wp2_with fail
  go_loopw [18, 19] (fun vi _ wr => vi = .int .i64 0 ∧ Objs w0 wr (.box b14 106 #[.int .i64 ca, .int .i64 cb] :: .box b5 90 (av14 ⟨5, row, ca, cb, n, y, A, c, cs, soft, q⟩) :: .grid p 58 ↑cols L :: .grid x 33 ↑cols L :: os)) (fun _ _ _ => 0)
  case atStart => exact ⟨rfl, S90.out⟩
  case round =>
  clear S90
  obtain ⟨rfl, hS⟩ := hrel
  have S91 := Lib.hid hS
  clear hS
  go_wp2_with fail
  go_ret
  exact ⟨rfl, by rw [HN.out]; exact S91.out.tail.tail⟩
set_option maxRecDepth 100000 in
set_option maxHeartbeats 8000000 in
theorem does_roll_any_ok (row : Int) (h0 : row < 0 ∨ (0 ≤ row ∧ (L.length : Int) ≤ row) ∨ (0 ≤ row ∧ row < (L.length : Int))) (n : Int) (y : Cell) (A : Option Addr) (c : Nat) (cs : List Cell) (soft : Bool) (q : Pen) (hT : Tabs w0) (hS : Objs w0 w (.grid p 58 cols L :: .grid x 33 cols L :: os)) (hc : 0 < cols) (hcm : cols ≤ 1000) (hR : Rect cols L) (hL : 0 < L.length) (hLm : L.length ≤ 1000) (hA : RdC w0 A c cs) (hlc : cs.length ≤ 100000) (i_n : -9223372036854775808 ≤ n ∧ n ≤ 9223372036854775807) (top bot : Nat) (htb : top ≤ bot) (hbl : bot < L.length) (hq : q.ok = true) :
  Calls Tryd.prog 43 #[.pointer (some ⟨p, 0, none⟩), .pointer (some ⟨x, 0, none⟩), .agg (av14 ⟨5, row, ↑top, ↑bot, n, y, A, c, cs, soft, q⟩)] w fun e w' => e = .returned (.bool true) ∧ Objs w0 w' (.grid p 58 cols (act14N ⟨5, row, ↑top, ↑bot, n, y, A, c, cs, soft, q⟩ cols L) :: .grid x 33 cols (act14N ⟨5, row, ↑top, ↑bot, n, y, A, c, cs, soft, q⟩ cols L) :: os) := by
 have HT := Lib.hid hT
 have S0 := Lib.hid hS
 have HR := Lib.hid hR
 have HA := Lib.hid hA
 have HM := Lib.hid (hR.mill hcm)
 have hlm2 : L.length ≤ 100000 := by omega
 have hlm3 : L.length ≤ 1000000 := by omega
 have HIN := Lib.hid i_n
 clear hT hS hR hA i_n
 rcases h0 with h0 | ⟨h0, h1⟩ | ⟨h0, h1⟩
 all_goals
  have HE := Lib.hid (show rolE ↑top ↑bot q L.length = 0 by unfold rolE; rw [if_neg (by omega), if_neg (by rw [hq]; decide)])
  have HN := Lib.hid (show act14N ⟨5, row, ↑top, ↑bot, n, y, A, c, cs, soft, q⟩ cols L = rollL top bot n q cols L by simp [act14N, HE.out])
  have HQ := Lib.hid hq
  clear hq
  go_enter Tryd.func43, Tryd.ntmps43
  go_upto_region 1 with (fail)
  refine at_objsC S0.out.alloc1 (fun W hW => ?_)
  generalize w.heap.size = b5 at hW ⊢
  have S1 := Lib.hid hW
  clear hW S0
  obtain ⟨hx, hf, hz, hr, hp, hcl, hpc⟩ := (S1.out.box (k := 0) rfl).act14
  obtain ⟨Ax, cx, hBx, -, -⟩ := S1.out.gridRd (k := 2) rfl
  obtain ⟨hxx, hfx, hzx⟩ := hBx.facts
  clear hBx
  first | (have d1 : decide ((0 : Int) ≤ row) = false := decide_eq_false (by omega)) | (have d1 : decide ((0 : Int) ≤ row) = true := decide_eq_true (by omega))
  first | (have d2 : decide (row < (L.length : Int)) = false := decide_eq_false (by omega)) | (have d2 : decide (row < (L.length : Int)) = true := decide_eq_true (by omega))
  refine wp_region_below (by kernel_rfl) (by kernel_rfl) ?_
  repeat (go_big_quiet_step (fail))
  refine wpQuiet_nil ?_
  intro w2 hb2
  have S2 := Lib.hid (S1.out.bel hb2)
  clear hb2 S1
  clear hx hf hz hr hp hcl hpc hxx hfx hzx
  obtain ⟨hx, hf, hz, hr, hp, hcl, hpc⟩ := (S2.out.box (k := 0) rfl).act14
  obtain ⟨Ax, cx, hBx, -, -⟩ := S2.out.gridRd (k := 2) rfl
  obtain ⟨hxx, hfx, hzx⟩ := hBx.facts
  clear hBx
  go_wp2_with fail
  have d3 : decide ((top : Int) < (0 : Int)) = false := decide_eq_false (by omega)
  have d4 : decide ((bot : Int) < (top : Int)) = false := decide_eq_false (by omega)
  have d4n : decide ((bot) < (top)) = false := decide_eq_false (by omega)
  have d5 : decide ((L.length : Int) ≤ (bot : Int)) = false := decide_eq_false (by omega)
  have d5n : decide ((L.length) ≤ (bot)) = false := decide_eq_false (by omega)
  clear hx hf hz hr hp hcl hpc hxx hfx hzx
  refine at_objsC (S2.out.alloc1 (c1 := #[.int .i64 ↑top, .int .i64 ↑bot]) (t1 := 106)) (fun W3 hW => ?_)
  generalize w2.heap.size = b14 at hW ⊢
  have S10 := Lib.hid hW
  clear hW S2
  obtain ⟨hx, hf, hz, hr, hp, hcl, hpc⟩ := (S10.out.box (k := 1) rfl).act14
  obtain ⟨Ax, cx, hBx, -, -⟩ := S10.out.gridRd (k := 3) rfl
  obtain ⟨hxx, hfx, hzx⟩ := hBx.facts
  clear hBx
  obtain ⟨hxr, hfr, hzr⟩ := (S10.out.box (k := 0) rfl).facts
  refine wp_region_below (by kernel_rfl) (by kernel_rfl) ?_
  repeat (go_big_quiet_step (fail))
  refine wpQuiet_nil ?_
  intro w2 hb2
  have S11 := Lib.hid (S10.out.bel hb2)
  clear hb2 S10
  clear hx hf hz hr hp hcl hpc hxx hfx hzx
  clear hxr hfr hzr
  obtain ⟨hx, hf, hz, hr, hp, hcl, hpc⟩ := (S11.out.box (k := 1) rfl).act14
  obtain ⟨Ax, cx, hBx, -, -⟩ := S11.out.gridRd (k := 3) rfl
  obtain ⟨hxx, hfx, hzx⟩ := hBx.facts
  clear hBx
  obtain ⟨hxr, hfr, hzr⟩ := (S11.out.box (k := 0) rfl).facts
  go_wp2_with fail
  clear hxr hfr hzr
  have hcon := l14inked_any q HT.out S11.out
  rw [HQ.out] at hcon
  refine hcon.mono ?_
  rintro e w3 ⟨rfl, hS⟩
  have S12 := Lib.hid hS
  clear hS hcon S11
  clear hx hf hz hr hp hcl hpc hxx hfx hzx
  obtain ⟨hx, hf, hz, hr, hp, hcl, hpc⟩ := (S12.out.box (k := 1) rfl).act14
  obtain ⟨Ax, cx, hBx, -, -⟩ := S12.out.gridRd (k := 3) rfl
  obtain ⟨hxx, hfx, hzx⟩ := hBx.facts
  clear hBx
  obtain ⟨hxr, hfr, hzr⟩ := (S12.out.box (k := 0) rfl).facts
  go_wp2_with fail
  obtain ⟨G, hG⟩ : ∃ G, G = rollGone top bot n L := ⟨_, rfl⟩
  have HGR := Lib.hid (show Rect cols G by rw [hG]; exact HR.out.rollGone _ _ _)
  have hgl : G.length ≤ 1000000 := by rw [hG]; have := rollGone_len (top := top) (bot := bot) (n := n) (L := L); omega
  clear hxr hfr hzr
  clear hx hf hz hr hp hcl hpc hxx hfx hzx
  have hcon := r14RollG n q S12.out (k := 3) rfl hcm hLm HM.out htb hbl HIN.out
  rw [← hG] at hcon
  refine hcon.mono ?_
  rintro e w3 ⟨Aw, mw, cw, rfl, hS⟩
  have S20 := Lib.hid hS
  clear hS hcon S12
  obtain ⟨hx, hf, hz, hr, hp, hcl, hpc⟩ := (S20.out.box (k := 2) rfl).act14
  obtain ⟨Ax, cx, hBx, -, -⟩ := S20.out.gridRd (k := 4) rfl
  obtain ⟨hxx, hfx, hzx⟩ := hBx.facts
  clear hBx
  obtain ⟨hxr, hfr, hzr⟩ := (S20.out.box (k := 1) rfl).facts
  go_wp2_with fail
  clear hxr hfr hzr
  clear hx hf hz hr hp hcl hpc hxx hfx hzx
  have hcon := RollG n q HT.out S20.out (k := 3) rfl hc hcm hlm2 htb hbl HQ.out HIN.out
  rw [← hG] at hcon
  refine hcon.mono ?_
  rintro e w3 ⟨Al, ml, cl, rfl, hS⟩
  have S21 := Lib.hid hS
  clear hS hcon S20
  obtain ⟨rfl, -, hrl⟩ := S21.out.linesRd' (k := 0) rfl
  obtain ⟨rfl, -, hrw⟩ := S21.out.linesRd' (k := 1) rfl
  have HRL := Lib.hid hrl
  have HRW := Lib.hid hrw
  clear hrl hrw hG
  go_wp2_with fail
  have hcon := r14SameLines_any Al Aw cl cw G G w3 HRL.out HRW.out hgl hgl (HGR.out.mill hcm) (HGR.out.mill hcm)
  rw [show decide (G = G) = true by simp] at hcon
  refine hcon.mono ?_
  rintro e w3 ⟨rfl, hb⟩
  have S22 := Lib.hid (show Objs w0 _ (.lines (.slice Al G.length cl) G :: .box b14 106 #[.int .i64 ↑top, .int .i64 ↑bot] :: .box b5 90 (av14 ⟨5, row, ↑top, ↑bot, n, y, A, c, cs, soft, q⟩) :: .grid p 58 ↑cols (rollL top bot n q cols L) :: .grid x 33 ↑cols (rollL top bot n q cols L) :: os) from (S21.out.bel hb).drop2)
  clear hb hcon HRL HRW S21
  go_wp2_with fail
  go_loopw [18, 19] (fun vi _ wr => ∃ (i : Nat) (LL : List Ln), i ≤ G.length ∧ vi = .int .i64 i ∧ Hid (LL.length = G.length ∧ Rect cols LL) ∧ Objs w0 wr (.lines (.slice Al G.length cl) LL :: .box b14 106 #[.int .i64 ↑top, .int .i64 ↑bot] :: .box b5 90 (av14 ⟨5, row, ↑top, ↑bot, n, y, A, c, cs, soft, q⟩) :: .grid p 58 ↑cols (rollL top bot n q cols L) :: .grid x 33 ↑cols (rollL top bot n q cols L) :: os)) (fun vi _ _ => G.length - (intOf vi).toNat)
  case atStart => exact ⟨0, G, Nat.zero_le _, rfl, Lib.hid ⟨rfl, HGR.out⟩, S22.out⟩
  case round =>
  clear S22
  obtain ⟨i, LL, hi, rfl, HLL, hS⟩ := hrel
  have S23 := Lib.hid hS
  clear hS
  by_cases hlt : i < G.length
  case neg =>
   go_wp2_with fail
   go_ret
   exact ⟨rfl, by rw [HN.out]; exact S23.out.tail.tail.tail⟩
  have hb0 : (0 : Int) ≤ (i : Int) := by omega
  have hb1 : (i : Int) < (G.length : Int) := by omega
  go_wp2_with fail
  go_loopw [19] (fun vk wr => ∃ (k : Nat) (LL : List Ln), k ≤ cols ∧ vk = .int .i64 k ∧ Hid (LL.length = G.length ∧ Rect cols LL) ∧ Objs w0 wr (.lines (.slice Al G.length cl) LL :: .box b14 106 #[.int .i64 ↑top, .int .i64 ↑bot] :: .box b5 90 (av14 ⟨5, row, ↑top, ↑bot, n, y, A, c, cs, soft, q⟩) :: .grid p 58 ↑cols (rollL top bot n q cols L) :: .grid x 33 ↑cols (rollL top bot n q cols L) :: os)) (fun vk _ => cols - (intOf vk).toNat)
  case atStart => exact ⟨0, LL, Nat.zero_le _, rfl, HLL, S23.out⟩
  case round =>
  clear S23 HLL
  obtain ⟨k, LL, hk, rfl, HLL, hS⟩ := hrel
  have S24 := Lib.hid hS
  clear hS
  obtain ⟨li, hli⟩ := get_of (show i < LL.length by rw [HLL.out.1]; exact hlt)
  have HRC := Lib.hid (show li.1.length = cols from HLL.out.2.at_ hli)
  by_cases hlt2 : k < cols
  case neg =>
   obtain ⟨-, -, hrd⟩ := S24.out.linesRd' (k := 0) rfl
   obtain ⟨gv, ov, Ar, cr, rfl, hzv, hcv, -, -⟩ := hrd.at_ hli
   rw [HRC.out] at hcv
   clear hrd hli
   go_wp2_with fail
   go_roundw
   case rel => exact ⟨i + 1, LL, by omega, by go_num, HLL, S24.out⟩
   case measure => simp [intOf]; omega
  obtain ⟨xm, hxm⟩ := get_of (show k < li.1.length by rw [HRC.out]; exact hlt2)
  obtain ⟨gv, cv', gb, cb', e, hzv, hcv, hzb, hcw, hfb, hS2⟩ := S24.out.setWidthL (k := 0) rfl hli hxm 9
  simp only [Value.slice.injEq] at e
  obtain ⟨rfl, -, rfl⟩ := e
  rw [HRC.out] at hcv
  rw [cellW_at hxm] at hS2
  have S25 := Lib.hid hS2
  have HLI := Lib.hid hli
  have hk0 : (0 : Int) ≤ (k : Int) := by omega
  have hk1 : (k : Int) < (cols : Int) := by omega
  clear hS2 hli hxm
  go_wp2_with fail
  go_roundw
  case rel => exact ⟨k + 1, LL.set i (set9 k li.1, li.2), by omega, by go_num, Lib.hid ⟨by rw [List.length_set]; exact HLL.out.1, rect_set HLL.out.2 (by rw [set9_length]; exact HRC.out)⟩, S25.out⟩
  case measure => simp [intOf]; omega
end
end Go.Proofs.YtppijfjigcoifaaDoor

namespace Go.Proofs.YtppijfjigcoifaaDoor
open Go.RowKit

def N64 (n : Int) : Prop := -9223372036854775808 ≤ n ∧ n ≤ 9223372036854775807
section
variable {w0 w : World} {os : List Ob} {p x cols : Nat} {L : List Ln}
theorem l14does_any (a : Act14) (hT : Tabs w0) (hS : Objs w0 w (.grid p 58 cols L :: .grid x 33 cols L :: os)) (hc : 0 < cols) (hcm : cols ≤ 1000) (hR : Rect cols L) (hL : 0 < L.length) (hLm : L.length ≤ 1000) (hA : RdC w0 a.A a.c a.cs) (hlc : a.cs.length ≤ 100000) (ia : N64 a.a) (ib : N64 a.b) (i_n : N64 a.n) :
  Calls Tryd.prog 43 #[.pointer (some ⟨p, 0, none⟩), .pointer (some ⟨x, 0, none⟩), .agg (av14 a)] w fun e w' => e = .returned (.bool true) ∧ Objs w0 w' (.grid p 58 cols (act14N a cols L) :: .grid x 33 cols (act14N a cols L) :: os) := by
 obtain ⟨what, row, ca, cb, n, y, A, c, cs, soft, q⟩ := a
 have hrow : row < 0 ∨ (0 ≤ row ∧ (L.length : Int) ≤ row) ∨ ∃ i : Nat, row = i ∧ i < L.length := by
  by_cases h1 : row < 0
  ·exact .inl h1
  ·by_cases h2 : row < L.length
   ·exact .inr (.inr ⟨row.toNat, by omega, by omega⟩)
   ·exact .inr (.inl ⟨by omega, by omega⟩)
 have hout : ∀ {P : Prop}, (row < 0 ∨ (0 ≤ row ∧ (L.length : Int) ≤ row) → P) → (∀ i : Nat, row = i → i < L.length → P) → P := fun h1 h2 => by
  rcases hrow with h | h | ⟨i, e, hi⟩
  ·exact h1 (.inl h)
  ·exact h1 (.inr h)
  ·exact h2 i e hi
 have hany : row < 0 ∨ (0 ≤ row ∧ (L.length : Int) ≤ row) ∨ (0 ≤ row ∧ row < (L.length : Int)) := by omega
 have hnat : ∀ v : Int, 0 ≤ v → ∃ j : Nat, v = j := fun v hv => ⟨v.toNat, by omega⟩
 by_cases w0' : what = 0
 ·subst w0'
  refine hout (fun h => does_put_out row h ca cb n y A c cs soft q hT hS hc hcm hR hL hLm hA hlc ia ib i_n) (fun i e hi => ?_)
  subst e
  by_cases h1 : ca < 0
  ·exact does_put_cneg i hi ca cb n y A c cs soft q hT hS hc hcm hR hL hLm hA hlc ia ib i_n h1
  by_cases h2 : (cols : Int) ≤ ca
  ·exact does_put_cpast i hi ca cb n y A c cs soft q hT hS hc hcm hR hL hLm hA hlc ia ib i_n (by omega) h2
  obtain ⟨j, rfl⟩ := hnat ca (by omega)
  have hj : j < cols := by omega
  cases hv : y.ok with
  | false => exact does_put_bad i hi cb n y A c cs soft q hT hS hc hcm hR hL hLm hA hlc ib i_n j hj hv
  | true =>
   by_cases hw : y.width = 0
   ·exact does_put_zero i hi cb n y A c cs soft q hT hS hc hcm hR hL hLm hA hlc ib i_n j hj hv hw
   rcases ok_w12 hv hw with hw1 | hw2
   ·exact does_put_one i hi cb n y A c cs soft q hT hS hc hcm hR hL hLm hA hlc ib i_n j hj hv hw1
   exact does_put_two i hi cb n y A c cs soft q hT hS hc hcm hR hL hLm hA hlc ib i_n j hj hv hw2
 by_cases w1 : what = 1
 ·subst w1
  refine hout (fun h => does_clr_out row h ca cb n y A c cs soft q hT hS hc hcm hR hL hLm hA hlc ia ib i_n) (fun i e hi => ?_)
  subst e
  by_cases h1 : ca < 0
  ·exact does_clr_a i hi ca cb n y A c cs soft q hT hS hc hcm hR hL hLm hA hlc ia ib i_n h1
  by_cases h2 : cb < ca
  ·exact does_clr_b i hi ca cb n y A c cs soft q hT hS hc hcm hR hL hLm hA hlc ia ib i_n (by omega) h2
  by_cases h3 : (cols : Int) < cb
  ·exact does_clr_c i hi ca cb n y A c cs soft q hT hS hc hcm hR hL hLm hA hlc ia ib i_n (by omega) (by omega) h3
  cases hq : q.ok with
  | false => exact does_clr_pen i hi ca cb n y A c cs soft q hT hS hc hcm hR hL hLm hA hlc ia ib i_n (by omega) (by omega) (by omega) hq
  | true =>
   obtain ⟨f, rfl⟩ := hnat ca (by omega)
   obtain ⟨t, rfl⟩ := hnat cb (by omega)
   exact does_clr_ok i hi n y A c cs soft q hT hS hc hcm hR hL hLm hA hlc i_n f t (by omega) (by omega) hq
 by_cases w2 : what = 2
 ·subst w2
  refine hout (fun h => does_shf_out row h ca cb n y A c cs soft q hT hS hc hcm hR hL hLm hA hlc ia ib i_n) (fun i e hi => ?_)
  subst e
  by_cases h1 : ca < 0
  ·exact does_shf_a i hi ca cb n y A c cs soft q hT hS hc hcm hR hL hLm hA hlc ia ib i_n h1
  by_cases h2 : (cols : Int) ≤ ca
  ·exact does_shf_b i hi ca cb n y A c cs soft q hT hS hc hcm hR hL hLm hA hlc ia ib i_n (by omega) h2
  cases hq : q.ok with
  | false => exact does_shf_pen i hi ca cb n y A c cs soft q hT hS hc hcm hR hL hLm hA hlc ia ib i_n (by omega) (by omega) hq
  | true =>
   obtain ⟨j, rfl⟩ := hnat ca (by omega)
   exact does_shf_ok i hi cb n y A c cs soft q hT hS hc hcm hR hL hLm hA hlc ib i_n j (by omega) hq
 by_cases w3 : what = 3
 ·subst w3
  refine hout (fun h => does_setl_out row h ca cb n y A c cs soft q hT hS hc hcm hR hL hLm hA hlc ia ib i_n) (fun i e hi => ?_)
  subst e
  cases hv : lineOk cs with
  | false => exact does_setl_bad i hi ca cb n y A c cs soft q hT hS hc hcm hR hL hLm hA hlc ia ib i_n hv
  | true => exact does_setl_ok i hi ca cb n y A c cs soft q hT hS hc hcm hR hL hLm hA hlc ia ib i_n hv
 by_cases w4 : what = 4
 ·subst w4
  refine hout (fun h => does_soft_out row h ca cb n y A c cs soft q hT hS hc hcm hR hL hLm hA hlc ia ib i_n) (fun i e hi => ?_)
  subst e
  exact does_soft_yes i hi ca cb n y A c cs soft q hT hS hc hcm hR hL hLm hA hlc ia ib i_n
 by_cases w5 : what = 5
 ·subst w5
  by_cases h1 : ca < 0
  ·exact does_roll_any_a row hany ca cb n y A c cs soft q hT hS hc hcm hR hL hLm hA hlc ia ib i_n h1
  by_cases h2' : cb < ca
  ·exact does_roll_any_b row hany ca cb n y A c cs soft q hT hS hc hcm hR hL hLm hA hlc ia ib i_n (by omega) h2'
  by_cases h3 : (L.length : Int) ≤ cb
  ·exact does_roll_any_c row hany ca cb n y A c cs soft q hT hS hc hcm hR hL hLm hA hlc ia ib i_n (by omega) (by omega) h3
  cases hq : q.ok with
  | false =>
   exact does_roll_any_pen row hany ca cb n y A c cs soft q hT hS hc hcm hR hL hLm hA hlc ia ib i_n (by omega) (by omega) (by omega) hq
  | true =>
   obtain ⟨t, rfl⟩ := hnat ca (by omega)
   obtain ⟨b, rfl⟩ := hnat cb (by omega)
   exact does_roll_any_ok row hany n y A c cs soft q hT hS hc hcm hR hL hLm hA hlc i_n t b (by omega) (by omega) hq
 exact does_copy_any row hany ca cb n what w0' w1 w2 w3 w4 w5 y A c cs soft q hT hS hc hcm hR hL hLm hA hlc ia ib i_n
end
end Go.Proofs.YtppijfjigcoifaaDoor

set_option linter.constructorNameAsVariable false
set_option maxRecDepth 100000
namespace Go.Proofs.YtppijfjigcoifaaDoor
open Go.ChangeShapes Go.WideShapes Go.ChangeAt Go.RowKit Go.Deep Go.WideElems

section
variable {H : Type} {enc : TypeId × Value → H}

theorem trodAll_below {P : Program} (hl : laidOutB P = true) {W W' : World} (hb : Below W.heap.size W W') {sp : Nat → Bool} : ∀ (ts : List TypeId) (vs : List Value) (ds : List (DataW H)) (ps : List MemPlace), (∀ t ∈ ts, P.readableRec t = true ∧ t < P.types.size) →
  DataW.TrodAll enc P W 0 (fun _ => true) true ts vs ds ps → (∀ x ∈ ps, x.block < W.heap.size) → (∀ x ∈ ps, sp x.block = true) → DataW.TrodAll enc P W' 0 sp true ts vs ds ps
 | [], [], [], ps, _, h, _, _ => h
 | t :: ts, v :: vs, d :: ds, ps, ht, h, hlt, hs => by
  obtain ⟨p, q, h1, h2, rfl⟩ := h
  exact ⟨p, q, Trod_stays hl (ht t (by simp)).1 (ht t (by simp)).2 h1 (fun x hx => hb.same (hlt x (by simp [hx]))) (fun x hx => hs x (by simp [hx])),
   trodAll_below hl hb ts vs ds q (fun u hu => ht u (by simp [hu])) h2 (fun x hx => hlt x (by simp [hx])) (fun x hx => hs x (by simp [hx])), rfl⟩
 | [], _ :: _, _, _, _, h, _, _ => by cases h
 | [], [], _ :: _, _, _, h, _, _ => by cases h
 | _ :: _, [], _, _, _, h, _, _ => by cases h
 | _ :: _, _ :: _, [], _, _, h, _, _ => by cases h

theorem law_post {P : Program} {f : Func} {s : ChangeSpec} {W W' : World} {args : Array Value} {ds gs : List (DataW H)} {before : List MemPlace} {tb : TypeId} (hv : s.vars = []) (hl : laidOutB P = true)
  (hW : DataW.Whole enc P f.params.toList s.vars false W args.toList ds gs before) (hpar : ∀ t ∈ f.params.toList, P.readableRec t = true ∧ t < P.types.size)
  (hfn : gs = [] → (s.fn H (ds ++ gs)).results = [.lit (.bool true)] ∧ (s.fn H (ds ++ gs)).args = ds ∧ (s.fn H (ds ++ gs)).vars = []) (hr : f.resultTypes = #[tb]) (htb : P.underlying tb = some .bool) (hb : Below W.heap.size W W') :
  s.post enc P f false true false false W args (.bool true) W' := by
 have hlt : ∀ p ∈ before, p.block < W.heap.size := fun p hp => hW.lt p hp
 have hW' := hW
 obtain ⟨p, q, hA, hV, rfl, hfz, hnd⟩ := hW
 rw [hv] at hV
 obtain ⟨rfl, rfl⟩ := trodVars_none hV
 obtain ⟨f1, f2, f3⟩ := hfn rfl
 have hargs : ∀ sp : Nat → Bool, (∀ x ∈ p, sp x.block = true) → DataW.TrodAll enc P W' 0 sp true f.params.toList args.toList (s.fn H (ds ++ [])).args p := fun sp hs => by
  rw [f2]; exact trodAll_below hl hb _ _ _ _ hpar hA (fun x hx => hlt x (by simp [hx])) hs
 have hres : ∀ (b : Nat) (sp : Nat → Bool) (hd : Bool), DataW.TrodAll enc P W' b sp hd f.resultTypes.toList ((Value.bool true).resultList f.resultTypes.size) (s.fn H (ds ++ [])).results [] := fun b sp hd => by
  rw [f1, hr]; exact trodAll_cons_mk (shut_bool htb _) trodAll_mk0
 have hvars : ∀ sp : Nat → Bool, DataW.TrodVars enc P W' sp s.vars (s.fn H (ds ++ [])).vars [] := fun sp => by rw [hv, f3]; rfl
 have hold : ∀ x ∈ p, (fun b => decide (b < W.heap.size)) x.block = true := fun x hx => by simpa using hlt x (by simp [hx])
 refine ⟨ds, [], p ++ [], [], p, [], hW', hres _ _ _, hargs _ hold, hvars _, World.keptBut_mono (fun x hx => ⟨hx, ?_⟩) (hb.frame (· ∈ p ++ [])), fun h => by cases h⟩
 exact Or.inr (by simpa using hx)

section
variable {w : World} {base : Nat} {sp : Nat → Bool} {hd : Bool} {fuel : Nat} {cs : List Value} {x : DataW H × List MemPlace}
theorem cells_color : Tryd.prog.cellsOf 51 = 5 := by kernel_rfl
theorem cells_pen : Tryd.prog.cellsOf 54 = 11 := by kernel_rfl
theorem cells_cell : Tryd.prog.cellsOf 71 = 16 := by kernel_rfl
theorem cells_arr3 : Tryd.prog.cellsOf 69 = 3 := by kernel_rfl
theorem cells_i32 : Tryd.prog.cellsOf 21 = 1 := by kernel_rfl
theorem cells_int : Tryd.prog.cellsOf 3 = 1 := by kernel_rfl
theorem cells_u8 : Tryd.prog.cellsOf 5 = 1 := by kernel_rfl
theorem cells_kind : Tryd.prog.cellsOf 49 = 1 := by kernel_rfl
theorem cells_flags : Tryd.prog.cellsOf 52 = 1 := by kernel_rfl
theorem num_field {P : Program} {t : TypeId} {k : IntKind} {c : Value} {y : Option (DataW H × List MemPlace)} (ht : P.underlying t = some (.int k)) (hy : y.isSome = true) (h : DataW.trod enc P w base sp hd fuel t [c] = y) : ∃ n, c = .int k n := by
 obtain ⟨z, hz⟩ := Option.isSome_iff_exists.1 hy
 obtain ⟨n, hn, _⟩ := DataW.trod_int ht (h.trans hz)
 exact ⟨n, by simpa using hn⟩
theorem trod_color (h : DataW.trod enc Tryd.prog w base sp hd fuel 51 cs = some x) : ∃ k i r g b, cs = [.int .i64 k, .int .u8 i, .int .u8 r, .int .u8 g, .int .u8 b] := by
 obtain ⟨xs, n, _, _, hlen, hxl, hf⟩ := DataW.trod_struct Tryd.underlying51 h
 rw [cells_color] at hlen
 match cs, hlen, hf with
 | [c0, c1, c2, c3, c4], _, hf =>
  have h0 : DataW.trod enc Tryd.prog w base sp hd n 49 (([c0, c1, c2, c3, c4].drop 0).take (Tryd.prog.cellsOf 49)) = xs[0]? := hf 0 _ rfl
  have h1 : DataW.trod enc Tryd.prog w base sp hd n 5 (([c0, c1, c2, c3, c4].drop 1).take (Tryd.prog.cellsOf 5)) = xs[1]? := hf 1 _ rfl
  have h2 : DataW.trod enc Tryd.prog w base sp hd n 5 (([c0, c1, c2, c3, c4].drop 2).take (Tryd.prog.cellsOf 5)) = xs[2]? := hf 2 _ rfl
  have h3 : DataW.trod enc Tryd.prog w base sp hd n 5 (([c0, c1, c2, c3, c4].drop 3).take (Tryd.prog.cellsOf 5)) = xs[3]? := hf 3 _ rfl
  have h4 : DataW.trod enc Tryd.prog w base sp hd n 5 (([c0, c1, c2, c3, c4].drop 4).take (Tryd.prog.cellsOf 5)) = xs[4]? := hf 4 _ rfl
  simp only [cells_kind, cells_u8, List.drop_zero, List.drop_succ_cons, List.take_succ_cons, List.take_zero] at h0 h1 h2 h3 h4
  obtain ⟨k, rfl⟩ := num_field Tryd.underlying49 (by simp [hxl]) h0
  obtain ⟨i, rfl⟩ := num_field Tryd.underlying5 (by simp [hxl]) h1
  obtain ⟨r, rfl⟩ := num_field Tryd.underlying5 (by simp [hxl]) h2
  obtain ⟨g, rfl⟩ := num_field Tryd.underlying5 (by simp [hxl]) h3
  obtain ⟨b, rfl⟩ := num_field Tryd.underlying5 (by simp [hxl]) h4
  exact ⟨k, i, r, g, b, rfl⟩
theorem some_of {α : Type} {y : Option α} (h : y.isSome = true) : ∃ z, y = some z := Option.isSome_iff_exists.1 h
theorem trod_pen (h : DataW.trod enc Tryd.prog w base sp hd fuel 54 cs = some x) : ∃ q : Pen, cs = (pv q).toList := by
 obtain ⟨xs, n, _, _, hlen, hxl, hf⟩ := DataW.trod_struct Tryd.underlying54 h
 rw [cells_pen] at hlen
 have h0 : DataW.trod enc Tryd.prog w base sp hd n 51 ((cs.drop 0).take (Tryd.prog.cellsOf 51)) = xs[0]? := hf 0 _ rfl
 have h1 : DataW.trod enc Tryd.prog w base sp hd n 51 ((cs.drop 5).take (Tryd.prog.cellsOf 51)) = xs[1]? := hf 1 _ rfl
 have h2 : DataW.trod enc Tryd.prog w base sp hd n 52 ((cs.drop 10).take (Tryd.prog.cellsOf 52)) = xs[2]? := hf 2 _ rfl
 obtain ⟨z0, e0⟩ := some_of (show (xs[0]?).isSome = true by simp [hxl])
 obtain ⟨z1, e1⟩ := some_of (show (xs[1]?).isSome = true by simp [hxl])
 simp only [cells_color, cells_flags] at h0 h1 h2
 obtain ⟨k, i, r, g, b, hc0⟩ := trod_color (h0.trans e0)
 obtain ⟨k', i', r', g', b', hc1⟩ := trod_color (h1.trans e1)
 match cs, hlen with
 | [c0, c1, c2, c3, c4, c5, c6, c7, c8, c9, c10], _ =>
  simp only [List.drop_zero, List.drop_succ_cons, List.take_succ_cons, List.take_zero] at h2 hc0 hc1
  obtain ⟨fl, rfl⟩ := num_field Tryd.underlying52 (by simp [hxl]) h2
  simp only [List.cons.injEq, and_true] at hc0 hc1
  obtain ⟨rfl, rfl, rfl, rfl, rfl⟩ := hc0
  obtain ⟨rfl, rfl, rfl, rfl, rfl⟩ := hc1
  exact ⟨⟨k, i, r, g, b, k', i', r', g', b', fl⟩, rfl⟩
theorem trod_arr3 (h : DataW.trod enc Tryd.prog w base sp hd fuel 69 cs = some x) : ∃ a b c, cs = [.int .i32 a, .int .i32 b, .int .i32 c] := by
 obtain ⟨xs, n, _, _, hlen, hxl, hf⟩ := DataW.trod_array Tryd.underlying69 h
 rw [cells_arr3] at hlen
 match cs, hlen with
 | [c0, c1, c2], _ =>
  have h0 := hf 0 (by omega)
  have h1 := hf 1 (by omega)
  have h2 := hf 2 (by omega)
  simp only [cells_i32, Nat.zero_mul, Nat.one_mul, Nat.mul_one, List.drop_zero, List.drop_succ_cons, List.take_succ_cons, List.take_zero] at h0 h1 h2
  obtain ⟨a, rfl⟩ := num_field Tryd.underlying21 (by simp [hxl]) h0
  obtain ⟨b, rfl⟩ := num_field Tryd.underlying21 (by simp [hxl]) h1
  obtain ⟨c, rfl⟩ := num_field Tryd.underlying21 (by simp [hxl]) h2
  exact ⟨a, b, c, rfl⟩
theorem trod_cell (h : DataW.trod enc Tryd.prog w base sp hd fuel 71 cs = some x) : ∃ q : Cell, cs = (cv q).toList := by
 obtain ⟨xs, n, _, _, hlen, hxl, hf⟩ := DataW.trod_struct Tryd.underlying71 h
 rw [cells_cell] at hlen
 have h0 : DataW.trod enc Tryd.prog w base sp hd n 21 ((cs.drop 0).take (Tryd.prog.cellsOf 21)) = xs[0]? := hf 0 _ rfl
 have h1 : DataW.trod enc Tryd.prog w base sp hd n 69 ((cs.drop 1).take (Tryd.prog.cellsOf 69)) = xs[1]? := hf 1 _ rfl
 have h2 : DataW.trod enc Tryd.prog w base sp hd n 3 ((cs.drop 4).take (Tryd.prog.cellsOf 3)) = xs[2]? := hf 2 _ rfl
 have h3 : DataW.trod enc Tryd.prog w base sp hd n 54 ((cs.drop 5).take (Tryd.prog.cellsOf 54)) = xs[3]? := hf 3 _ rfl
 obtain ⟨z1, e1⟩ := some_of (show (xs[1]?).isSome = true by simp [hxl])
 obtain ⟨z3, e3⟩ := some_of (show (xs[3]?).isSome = true by simp [hxl])
 simp only [cells_i32, cells_arr3, cells_int, cells_pen] at h0 h1 h2 h3
 obtain ⟨m0, m1, m2, hm⟩ := trod_arr3 (h1.trans e1)
 obtain ⟨q, hq⟩ := trod_pen (h3.trans e3)
 match cs, hlen with
 | [c0, c1, c2, c3, c4, c5, c6, c7, c8, c9, c10, c11, c12, c13, c14, c15], _ =>
  simp only [List.drop_zero, List.drop_succ_cons, List.take_succ_cons, List.take_zero] at h0 h2 hm hq
  obtain ⟨r, rfl⟩ := num_field Tryd.underlying21 (by simp [hxl]) h0
  obtain ⟨wd, rfl⟩ := num_field Tryd.underlying3 (by simp [hxl]) h2
  simp only [List.cons.injEq, and_true] at hm
  obtain ⟨rfl, rfl, rfl⟩ := hm
  simp only [pv, List.cons.injEq, and_true] at hq
  obtain ⟨rfl, rfl, rfl, rfl, rfl, rfl, rfl, rfl, rfl, rfl, rfl⟩ := hq
  exact ⟨⟨r, m0, m1, m2, wd, q⟩, rfl⟩
end
theorem trod_cells {w : World} {fuel : Nat} {cs : List Value} {x : DataW H × List MemPlace} {hd : Bool} (h : DataW.trod enc Tryd.prog w 0 (fun _ => true) hd fuel 37 cs = some x) : ∃ A c l, cs = [.slice A l.length c] ∧ RdC w A c l ∧ c ≤ maxLen := by
 rcases open_slice Tryd.underlying37 h with ⟨rfl, _⟩ | ⟨a, len, cap, m, n, D, Pl, rfl, _, hl, hm, hmm, _, hi⟩
 ·exact ⟨none, 0, [], rfl, RdC.nil _, by simp [maxLen]⟩
 ·simp only [if_true] at hmm
  subst hmm
  rw [cells_cell] at hi
  have hall : ∀ i, i < len → ∃ c : Cell, ∀ j, j < 16 → w.cell? ((a.add (i * 16)).add j) = (cv c)[j]? := by
   intro i hlt
   obtain ⟨cs', hc, ht⟩ := hi i (by omega)
   obtain ⟨_, hcl, hat⟩ := World.cells?_some hc
   obtain ⟨c, rfl⟩ := trod_cell ht
   exact ⟨c, fun j hj => by rw [hat j hj]; simp⟩
  have hl2 : ∃ l : List Cell, l.length = len ∧ ∀ i (h : i < l.length), ∀ j, j < 16 → w.cell? ((a.add (i * 16)).add j) = (cv l[i])[j]? := by
   refine ⟨(List.range len).map fun i => if h : i < len then (hall i h).choose else cell0, by simp, fun i h j hj => ?_⟩
   have hlt : i < len := by simpa using h
   simp only [List.getElem_map, List.getElem_range, hlt, dif_pos]
   exact (hall i hlt).choose_spec j hj
  obtain ⟨l, rfl, hcell⟩ := hl2
  refine ⟨some a, m, l, rfl, ⟨hl, (fun h => by cases h), fun hn => ?_⟩, hm⟩
  have h00 := hcell 0 hn 0 (by omega)
  simp only [Nat.zero_mul, Addr.add_zero', cv_get0] at h00
  obtain ⟨b, off, spot⟩ := a
  have hspot : spot = none := by
   cases spot with
   | none => rfl
   | some q => simp [World.cell?] at h00; split at h00 <;> simp at h00
  subst hspot
  refine ⟨b, off, rfl, block_lt_of_cell h00, fun j v hv => ?_⟩
  have hj : j < (flat l).length := (List.getElem?_eq_some_iff.1 hv).1
  rw [flat_length] at hj
  have hk : j / 16 < l.length := by omega
  have := hcell (j / 16) hk (j % 16) (by omega)
  rw [add_at, add_at] at this
  rw [show off + j = off + j / 16 * 16 + j % 16 by omega, this, ← hv, ← flat_at l (j / 16) (j % 16) l[j / 16] (by simp [hk]) (by omega)]
  congr 1; omega
end
end Go.Proofs.YtppijfjigcoifaaDoor

set_option linter.constructorNameAsVariable false
set_option maxRecDepth 100000
namespace Go.Proofs.YtppijfjigcoifaaDoor
open Go.ChangeShapes Go.WideShapes Go.ChangeAt Go.RowKit Go.Deep Go.WideElems

section
variable {H : Type} {enc : TypeId × Value → H}
theorem cells_line : Tryd.prog.cellsOf 39 = 2 := by kernel_rfl
theorem cells_slice : Tryd.prog.cellsOf 37 = 1 := by kernel_rfl
theorem cells_bool : Tryd.prog.cellsOf 4 = 1 := by kernel_rfl
theorem trod_line {w : World} {fuel : Nat} {cs : List Value} {x : DataW H × List MemPlace} {hd : Bool} (h : DataW.trod enc Tryd.prog w 0 (fun _ => true) hd fuel 39 cs = some x) : ∃ A c l s, cs = [.slice A l.length c, .bool s] ∧ RdC w A c l ∧ c ≤ maxLen := by
 obtain ⟨xs, n, _, _, hlen, hxl, hf⟩ := DataW.trod_struct Tryd.underlying39 h
 rw [cells_line] at hlen
 match cs, hlen, hf with
 | [c0, c1], _, hf =>
  have h0 : DataW.trod enc Tryd.prog w 0 (fun _ => true) hd n 37 (([c0, c1].drop 0).take (Tryd.prog.cellsOf 37)) = xs[0]? := hf 0 _ rfl
  have h1 : DataW.trod enc Tryd.prog w 0 (fun _ => true) hd n 4 (([c0, c1].drop 1).take (Tryd.prog.cellsOf 4)) = xs[1]? := hf 1 _ rfl
  obtain ⟨z0, e0⟩ := some_of (show (xs[0]?).isSome = true by simp [hxl])
  obtain ⟨z1, e1⟩ := some_of (show (xs[1]?).isSome = true by simp [hxl])
  simp only [cells_slice, cells_bool, List.drop_zero, List.drop_succ_cons, List.take_succ_cons, List.take_zero] at h0 h1
  obtain ⟨A, c, l, he, hr, hm⟩ := trod_cells (h0.trans e0)
  obtain ⟨b, hb, _⟩ := DataW.trod_bool Tryd.underlying4 (h1.trans e1)
  simp only [List.cons.injEq, and_true] at he hb
  subst he
  subst hb
  exact ⟨A, c, l, b, rfl, hr, hm⟩
end
end Go.Proofs.YtppijfjigcoifaaDoor

set_option linter.constructorNameAsVariable false
set_option maxRecDepth 100000
namespace Go.Proofs.YtppijfjigcoifaaDoor
open Go.ChangeShapes Go.WideShapes Go.ChangeAt Go.RowKit Go.Deep Go.WideElems

section
variable {H : Type} {enc : TypeId × Value → H}
theorem trod_recs {V : Type} [Inhabited V] {Pr : V → Prop} {w : World} {fuel : Nat} {cs : List Value} {x : DataW H × List MemPlace} {hd : Bool} {tS tE : TypeId} {k : Nat} (av : V → Array Value) (hu : Tryd.prog.underlying tS = some (.slice tE)) (hk : Tryd.prog.cellsOf tE = k) (hk0 : 0 < k) (hav : ∀ a, (av a).size = k)
  (helem : ∀ (fuel : Nat) (cs' : List Value) (x' : DataW H × List MemPlace), DataW.trod enc Tryd.prog w 0 (fun _ => true) hd fuel tE cs' = some x' → ∃ a, cs' = (av a).toList ∧ Pr a)
  (h : DataW.trod enc Tryd.prog w 0 (fun _ => true) hd fuel tS cs = some x) : ∃ (A : Option Addr) (c : Nat) (l : List V), cs = [.slice A l.length c] ∧ RdRec w A c k (l.map av) ∧ c ≤ maxLen ∧ ∀ a ∈ l, Pr a := by
 rcases open_slice hu h with ⟨rfl, _⟩ | ⟨a, len, cap, m, n, D, Pl, rfl, _, hl, hm, hmm, _, hi⟩
 ·exact ⟨none, 0, [], rfl, ⟨by simp, fun _ => rfl, fun h => by simp at h⟩, by simp [maxLen], fun a ha => by simp at ha⟩
 ·simp only [if_true] at hmm
  subst hmm
  rw [hk] at hi
  have hall : ∀ i, i < len → ∃ c : V, Pr c ∧ ∀ j, j < k → w.cell? ((a.add (i * k)).add j) = (av c)[j]? := by
   intro i hlt
   obtain ⟨cs', hc, ht⟩ := hi i (by omega)
   obtain ⟨_, hcl, hat⟩ := World.cells?_some hc
   obtain ⟨c, rfl, hp⟩ := helem _ _ _ ht
   exact ⟨c, hp, fun j hj => by rw [hat j hj]; simp⟩
  have hl2 : ∃ l : List V, l.length = len ∧ (∀ i (h : i < l.length), ∀ j, j < k → w.cell? ((a.add (i * k)).add j) = (av l[i])[j]?) ∧ ∀ c ∈ l, Pr c := by
   refine ⟨(List.range len).map fun i => if h : i < len then (hall i h).choose else default, by simp, fun i h j hj => ?_, fun c hc => ?_⟩
   ·have hlt : i < len := by simpa using h
    simp only [List.getElem_map, List.getElem_range, hlt, dif_pos]
    exact (hall i hlt).choose_spec.2 j hj
   ·obtain ⟨i, hi2, rfl⟩ := List.mem_map.1 hc
    have hlt : i < len := by simpa using hi2
    rw [dif_pos hlt]
    exact (hall i hlt).choose_spec.1
  obtain ⟨l, rfl, hcell, hpr⟩ := hl2
  refine ⟨some a, m, l, rfl, ⟨by simpa using hl, (fun h => by cases h), fun hn => ?_⟩, hm, hpr⟩
  have hn' : 0 < l.length := by simpa using hn
  have h00 := hcell 0 hn' 0 hk0
  have hsz : 0 < (av l[0]).size := by rw [hav]; exact hk0
  rw [Nat.zero_mul, Addr.add_zero', Addr.add_zero', Array.getElem?_eq_getElem hsz] at h00
  obtain ⟨b, off, spot⟩ := a
  have hspot : spot = none := by
   cases spot with
   | none => rfl
   | some q => simp [World.cell?] at h00; split at h00 <;> simp at h00
  subst hspot
  refine ⟨b, off, rfl, block_lt_of_cell h00, fun i r hr => ?_⟩
  rw [List.getElem?_map] at hr
  cases hli : l[i]? with
  | none => rw [hli] at hr; cases hr
  | some y =>
   rw [hli] at hr
   simp only [Option.map_some, Option.some.injEq] at hr
   subst hr
   obtain ⟨hil, hy⟩ := List.getElem?_eq_some_iff.1 hli
   refine recAt_of (hav y) (fun j v hv => ?_)
   have hj : j < k := by have := (List.getElem?_eq_some_iff.1 hv).1; simp [hav] at this; exact this
   have := hcell i hil j hj
   rw [add_at, add_at] at this
   rw [this, hy]
   simpa using hv
theorem open_recs {V : Type} [Inhabited V] {Pr : V → Prop} {v : Value} {w : World} {r : Reach} {b0 : Nat} {hd : Bool} {d : DataW H} {p : List MemPlace} {tS tE : TypeId} {k : Nat} (av : V → Array Value) (hu : Tryd.prog.underlying tS = some (.slice tE)) (hk : Tryd.prog.cellsOf tE = k) (hk0 : 0 < k) (hav : ∀ a, (av a).size = k)
  (helem : ∀ (fuel : Nat) (cs' : List Value) (x' : DataW H × List MemPlace), DataW.trod enc Tryd.prog w 0 (fun _ => true) hd fuel tE cs' = some x' → ∃ a, cs' = (av a).toList ∧ Pr a)
  (hv : Value.okWide Tryd.prog w r b0 tS v) (h : DataW.Trod enc Tryd.prog w 0 (fun _ => true) hd tS v d p) : ∃ (A : Option Addr) (c : Nat) (l : List V), v = .slice A l.length c ∧ RdRec w A c k (l.map av) ∧ c ≤ maxLen ∧ ∀ a ∈ l, Pr a := by
 obtain ⟨a0, n, c, rfl⟩ := okWide_slice hu hv
 obtain ⟨fuel, hf⟩ := h
 obtain ⟨A, c', l, he, hr⟩ := trod_recs av hu hk hk0 hav helem hf
 exact ⟨A, c', l, by simpa [Value.cells] using he, hr⟩
end
end Go.Proofs.YtppijfjigcoifaaDoor

set_option linter.constructorNameAsVariable false
set_option maxRecDepth 100000
namespace Go.Proofs.YtppijfjigcoifaaDoor
open Go.ChangeShapes Go.WideShapes Go.ChangeAt Go.RowKit Go.Deep Go.WideElems

section
variable {H : Type} {enc : TypeId × Value → H}
def In64 (n : Int) : Prop := -9223372036854775808 ≤ n ∧ n ≤ 9223372036854775807
theorem wf_in64 {n : Int} (h : (Lit.int .i64 n).wf = true) : In64 n := by
 unfold In64
 simpa [Lit.wf, IntKind.min, IntKind.max, IntKind.bits, IntKind.signed] using h
theorem num_fieldW {P : Program} {w : World} {base : Nat} {sp : Nat → Bool} {hd : Bool} {fuel : Nat} {t : TypeId} {k : IntKind} {c : Value} {y : Option (DataW H × List MemPlace)} (ht : P.underlying t = some (.int k)) (hy : y.isSome = true) (h : DataW.trod enc P w base sp hd fuel t [c] = y) : ∃ n, c = .int k n ∧ (Lit.int k n).wf = true := by
 obtain ⟨z, hz⟩ := Option.isSome_iff_exists.1 hy
 obtain ⟨n, hn, _, hw⟩ := DataW.trod_int ht (h.trans hz)
 exact ⟨n, by simpa using hn, hw⟩
end
end Go.Proofs.YtppijfjigcoifaaDoor

set_option linter.constructorNameAsVariable false
set_option maxRecDepth 100000
namespace Go.Proofs.YtppijfjigcoifaaDoor
open Go.ChangeShapes Go.WideShapes Go.ChangeAt Go.RowKit Go.Deep Go.WideElems

theorem list1 {α : Type} {n : Nat} {l : List α} (h : l.length = n + 1) : ∃ a r, l = a :: r ∧ r.length = n := by cases l with | nil => simp at h | cons a r => exact ⟨a, r, rfl, by simpa using h⟩
theorem list34 {α : Type} {l : List α} (h : l.length = 34) : ∃ c0 c1 c2 c3 c4 c5 c6 c7 c8 c9 c10 c11 c12 c13 c14 c15 c16 c17 c18 c19 c20 c21 c22 c23 c24 c25 c26 c27 c28 c29 c30 c31 c32 c33 : α, l = [c0, c1, c2, c3, c4, c5, c6, c7, c8, c9, c10, c11, c12, c13, c14, c15, c16, c17, c18, c19, c20, c21, c22, c23, c24, c25, c26, c27, c28, c29, c30, c31, c32, c33] := by
 obtain ⟨c0, r0, rfl, h0⟩ := list1 h
 obtain ⟨c1, r1, rfl, h1⟩ := list1 h0
 obtain ⟨c2, r2, rfl, h2⟩ := list1 h1
 obtain ⟨c3, r3, rfl, h3⟩ := list1 h2
 obtain ⟨c4, r4, rfl, h4⟩ := list1 h3
 obtain ⟨c5, r5, rfl, h5⟩ := list1 h4
 obtain ⟨c6, r6, rfl, h6⟩ := list1 h5
 obtain ⟨c7, r7, rfl, h7⟩ := list1 h6
 obtain ⟨c8, r8, rfl, h8⟩ := list1 h7
 obtain ⟨c9, r9, rfl, h9⟩ := list1 h8
 obtain ⟨c10, r10, rfl, h10⟩ := list1 h9
 obtain ⟨c11, r11, rfl, h11⟩ := list1 h10
 obtain ⟨c12, r12, rfl, h12⟩ := list1 h11
 obtain ⟨c13, r13, rfl, h13⟩ := list1 h12
 obtain ⟨c14, r14, rfl, h14⟩ := list1 h13
 obtain ⟨c15, r15, rfl, h15⟩ := list1 h14
 obtain ⟨c16, r16, rfl, h16⟩ := list1 h15
 obtain ⟨c17, r17, rfl, h17⟩ := list1 h16
 obtain ⟨c18, r18, rfl, h18⟩ := list1 h17
 obtain ⟨c19, r19, rfl, h19⟩ := list1 h18
 obtain ⟨c20, r20, rfl, h20⟩ := list1 h19
 obtain ⟨c21, r21, rfl, h21⟩ := list1 h20
 obtain ⟨c22, r22, rfl, h22⟩ := list1 h21
 obtain ⟨c23, r23, rfl, h23⟩ := list1 h22
 obtain ⟨c24, r24, rfl, h24⟩ := list1 h23
 obtain ⟨c25, r25, rfl, h25⟩ := list1 h24
 obtain ⟨c26, r26, rfl, h26⟩ := list1 h25
 obtain ⟨c27, r27, rfl, h27⟩ := list1 h26
 obtain ⟨c28, r28, rfl, h28⟩ := list1 h27
 obtain ⟨c29, r29, rfl, h29⟩ := list1 h28
 obtain ⟨c30, r30, rfl, h30⟩ := list1 h29
 obtain ⟨c31, r31, rfl, h31⟩ := list1 h30
 obtain ⟨c32, r32, rfl, h32⟩ := list1 h31
 obtain ⟨c33, r33, rfl, h33⟩ := list1 h32
 obtain rfl := List.length_eq_zero_iff.1 h33
 exact ⟨c0, c1, c2, c3, c4, c5, c6, c7, c8, c9, c10, c11, c12, c13, c14, c15, c16, c17, c18, c19, c20, c21, c22, c23, c24, c25, c26, c27, c28, c29, c30, c31, c32, c33, rfl⟩
instance : Inhabited Act14 := ⟨⟨0, 0, 0, 0, 0, cell0, none, 0, [], false, pen0⟩⟩
def Ok14 (w : World) (a : Act14) : Prop := In64 a.a ∧ In64 a.b ∧ In64 a.n ∧ RdC w a.A a.c a.cs ∧ a.c ≤ maxLen
section
variable {H : Type} {enc : TypeId × Value → H}
theorem cells_act14 : Tryd.prog.cellsOf 90 = 34 := by kernel_rfl
theorem cells_cell14 : Tryd.prog.cellsOf 71 = 16 := by kernel_rfl
theorem trod_act14 {w : World} {fuel : Nat} {cs : List Value} {x : DataW H × List MemPlace} {hd : Bool} (h : DataW.trod enc Tryd.prog w 0 (fun _ => true) hd fuel 90 cs = some x) : ∃ a : Act14, cs = (av14 a).toList ∧ Ok14 w a := by
 obtain ⟨xs, n, _, _, hlen, hxl, hf⟩ := DataW.trod_struct Tryd.underlying90 h
 rw [cells_act14] at hlen
 have h0 : DataW.trod enc Tryd.prog w 0 (fun _ => true) hd n 3 ((cs.drop 0).take (Tryd.prog.cellsOf 3)) = xs[0]? := hf 0 _ rfl
 have h1 : DataW.trod enc Tryd.prog w 0 (fun _ => true) hd n 3 ((cs.drop 1).take (Tryd.prog.cellsOf 3)) = xs[1]? := hf 1 _ rfl
 have h2 : DataW.trod enc Tryd.prog w 0 (fun _ => true) hd n 3 ((cs.drop 2).take (Tryd.prog.cellsOf 3)) = xs[2]? := hf 2 _ rfl
 have h3 : DataW.trod enc Tryd.prog w 0 (fun _ => true) hd n 3 ((cs.drop 3).take (Tryd.prog.cellsOf 3)) = xs[3]? := hf 3 _ rfl
 have h4 : DataW.trod enc Tryd.prog w 0 (fun _ => true) hd n 3 ((cs.drop 4).take (Tryd.prog.cellsOf 3)) = xs[4]? := hf 4 _ rfl
 have h5 : DataW.trod enc Tryd.prog w 0 (fun _ => true) hd n 71 ((cs.drop 5).take (Tryd.prog.cellsOf 71)) = xs[5]? := hf 5 _ rfl
 have h6 : DataW.trod enc Tryd.prog w 0 (fun _ => true) hd n 39 ((cs.drop 21).take (Tryd.prog.cellsOf 39)) = xs[6]? := hf 6 _ rfl
 have h7 : DataW.trod enc Tryd.prog w 0 (fun _ => true) hd n 54 ((cs.drop 23).take (Tryd.prog.cellsOf 54)) = xs[7]? := hf 7 _ rfl
 obtain ⟨z5, e5⟩ := some_of (show (xs[5]?).isSome = true by simp [hxl])
 obtain ⟨z6, e6⟩ := some_of (show (xs[6]?).isSome = true by simp [hxl])
 obtain ⟨z7, e7⟩ := some_of (show (xs[7]?).isSome = true by simp [hxl])
 simp only [cells_int, cells_cell14, cells_line, cells_pen] at h0 h1 h2 h3 h4 h5 h6 h7
 obtain ⟨x, hx⟩ := trod_cell (h5.trans e5)
 obtain ⟨A, c, l, s, hl, hr, hm⟩ := trod_line (h6.trans e6)
 obtain ⟨q, hq⟩ := trod_pen (h7.trans e7)
 obtain ⟨c0, c1, c2, c3, c4, c5, c6, c7, c8, c9, c10, c11, c12, c13, c14, c15, c16, c17, c18, c19, c20, c21, c22, c23, c24, c25, c26, c27, c28, c29, c30, c31, c32, c33, rfl⟩ := list34 hlen
 simp only [List.drop_zero, List.drop_succ_cons, List.take_succ_cons, List.take_zero] at h0 h1 h2 h3 h4 hx hl hq
 obtain ⟨n0, rfl⟩ := num_field Tryd.underlying3 (by simp [hxl]) h0
 obtain ⟨n1, rfl⟩ := num_field Tryd.underlying3 (by simp [hxl]) h1
 obtain ⟨n2, rfl, g2⟩ := num_fieldW Tryd.underlying3 (by simp [hxl]) h2
 obtain ⟨n3, rfl, g3⟩ := num_fieldW Tryd.underlying3 (by simp [hxl]) h3
 obtain ⟨n4, rfl, g4⟩ := num_fieldW Tryd.underlying3 (by simp [hxl]) h4
 simp only [cv, List.cons.injEq, and_true] at hx
 obtain ⟨rfl, rfl, rfl, rfl, rfl, rfl, rfl, rfl, rfl, rfl, rfl, rfl, rfl, rfl, rfl, rfl⟩ := hx
 simp only [List.cons.injEq, and_true] at hl
 obtain ⟨rfl, rfl⟩ := hl
 simp only [pv, List.cons.injEq, and_true] at hq
 obtain ⟨rfl, rfl, rfl, rfl, rfl, rfl, rfl, rfl, rfl, rfl, rfl⟩ := hq
 exact ⟨⟨n0, n1, n2, n3, n4, x, A, c, l, s, q⟩, rfl, wf_in64 g2, wf_in64 g3, wf_in64 g4, hr, hm⟩
theorem open_acts14 {v : Value} {w : World} {r : Reach} {b0 : Nat} {hd : Bool} {d : DataW H} {p : List MemPlace} (hv : Value.okWide Tryd.prog w r b0 86 v) (h : DataW.Trod enc Tryd.prog w 0 (fun _ => true) hd 86 v d p) : ∃ (A : Option Addr) (c : Nat) (l : List Act14), v = .slice A l.length c ∧ RdRec w A c 34 (l.map av14) ∧ c ≤ maxLen ∧ ∀ a ∈ l, Ok14 w a :=
 open_recs (Pr := fun a => Ok14 w a) av14 Tryd.underlying86 cells_act14 (by decide) av14_size (fun fuel cs' x' h => trod_act14 h) hv h
end
structure ALine where
 A : Option Addr
 c : Nat
 cs : List Cell
 s : Bool
instance : Inhabited ALine := ⟨⟨none, 0, [], false⟩⟩
section
variable {H : Type} {enc : TypeId × Value → H}
end
end Go.Proofs.YtppijfjigcoifaaDoor

set_option maxRecDepth 100000
namespace Go.Proofs.YtppijfjigcoifaaDoor
open Go.ChangeShapes Go.WideShapes Go.ChangeAt Go.RowKit Go.Deep Go.WideElems

section
variable {H : Type} {enc : TypeId × Value → H}
theorem cells_arr2 : Tryd.prog.cellsOf 95 = 2 := by kernel_rfl
theorem trod_arr2 {w : World} {base : Nat} {sp : Nat → Bool} {fuel : Nat} {cs : List Value} {x : DataW H × List MemPlace} {hd : Bool} (h : DataW.trod enc Tryd.prog w base sp hd fuel 95 cs = some x) : ∃ a b, cs = [.int .i64 a, .int .i64 b] := by
 obtain ⟨xs, n, _, _, hlen, hxl, hf⟩ := DataW.trod_array Tryd.underlying95 h
 rw [cells_arr2] at hlen
 match cs, hlen with
 | [c0, c1], _ =>
  have h0 := hf 0 (by omega)
  have h1 := hf 1 (by omega)
  simp only [cells_int, Nat.zero_mul, Nat.one_mul, Nat.mul_one, List.drop_zero, List.drop_succ_cons, List.take_succ_cons, List.take_zero] at h0 h1
  obtain ⟨a, rfl⟩ := num_field Tryd.underlying3 (by simp [hxl]) h0
  obtain ⟨b, rfl⟩ := num_field Tryd.underlying3 (by simp [hxl]) h1
  exact ⟨a, b, rfl⟩
theorem okWide_arr2 {v : Value} {w : World} {r : Reach} {b0 : Nat} (h : Value.okWide Tryd.prog w r b0 95 v) : ∃ cs, v = .agg cs := by
 simp only [Value.okWide, Tryd.underlying95] at h
 obtain ⟨cs, h1, _⟩ := h
 exact ⟨cs, h1⟩
theorem open_arr2 {v : Value} {w : World} {r : Reach} {b0 base : Nat} {sp : Nat → Bool} {hd : Bool} {d : DataW H} {p : List MemPlace} (hv : Value.okWide Tryd.prog w r b0 95 v) (h : DataW.Trod enc Tryd.prog w base sp hd 95 v d p) : ∃ a b, v = .agg #[.int .i64 a, .int .i64 b] := by
 obtain ⟨cs, rfl⟩ := okWide_arr2 hv
 obtain ⟨fuel, hf⟩ := h
 obtain ⟨a, b, ha⟩ := trod_arr2 hf
 exact ⟨a, b, by rw [show cs = #[.int .i64 a, .int .i64 b] from Array.ext' (by simpa [Value.cells] using ha)]⟩
end
end Go.Proofs.YtppijfjigcoifaaDoor

set_option linter.constructorNameAsVariable false
set_option maxRecDepth 100000
namespace Go.Proofs.YtppijfjigcoifaaDoor
open Go.ChangeShapes Go.WideShapes Go.ChangeAt Go.RowKit Go.Deep Go.WideElems

theorem own_knob : ownKnob Tryd.prog.godebug = none := by kernel_rfl
theorem laid_out : laidOutB Tryd.prog = true := by kernel_rfl
def pairData {H : Type} (x : Int × Int) : DataW H := .agg [.lit (.int .i32 x.1), .lit (.int .i32 x.2)]
theorem cells_pair : Tryd.prog.cellsOf 126 = 2 := by kernel_rfl
section
variable {H : Type} {enc : TypeId × Value → H} {w : World} {base : Nat} {sp : Nat → Bool} {hd : Bool} {fuel : Nat} {cs : List Value}
theorem num_lit {t : TypeId} {c : Value} {n : Int} {p : List MemPlace} (ht : Tryd.prog.underlying t = some (.int .i32)) (h : DataW.trod enc Tryd.prog w base sp hd fuel t [c] = some (.lit (.int .i32 n), p)) : c = .int .i32 n := by
 obtain ⟨m, hm, hx, _⟩ := DataW.trod_int ht h
 simp only [Prod.mk.injEq, DataW.lit.injEq, Lit.int.injEq, true_and] at hx
 simp only [List.cons.injEq, and_true] at hm
 rw [hm, hx.1]
theorem trod_pair {x : Int × Int} {p : List MemPlace} (h : DataW.trod enc Tryd.prog w base sp hd fuel 126 cs = some (pairData x, p)) : cs = [.int .i32 x.1, .int .i32 x.2] := by
 obtain ⟨xs, n, _, hx, hlen, hxl, hf⟩ := DataW.trod_array Tryd.underlying126 h
 rw [cells_pair] at hlen
 match cs, hlen, xs, hxl, hf, hx with
 | [c0, c1], _, [y0, y1], _, hf, hx =>
  have h0 := hf 0 (by omega)
  have h1 := hf 1 (by omega)
  simp only [cells_i32, Nat.zero_mul, Nat.one_mul, List.drop_zero, List.drop_succ_cons, List.take_succ_cons, List.take_zero, List.getElem?_cons_zero, List.getElem?_cons_succ] at h0 h1
  simp only [pairData, List.map_cons, List.map_nil, Prod.mk.injEq, DataW.agg.injEq, List.cons.injEq, and_true] at hx
  obtain ⟨y0a, y0b⟩ := y0
  obtain ⟨y1a, y1b⟩ := y1
  obtain ⟨⟨e0, e1⟩, _⟩ := hx
  simp only at e0 e1
  subst e0 e1
  rw [num_lit Tryd.underlying21 h0, num_lit Tryd.underlying21 h1]
theorem trod_table {t : TypeId} {tab : List (Int × Int)} {p : List MemPlace} (ht : Tryd.prog.underlying t = some (.array tab.length 126)) (h : DataW.trod enc Tryd.prog w base sp hd fuel t cs = some (.agg (tab.map pairData), p)) :
  ∀ k, k < tab.length → cs[k * 2]? = some (.int .i32 (loOf tab k)) ∧ cs[k * 2 + 1]? = some (.int .i32 (hiOf tab k)) := by
 obtain ⟨xs, n, _, hx, hlen, hxl, hf⟩ := DataW.trod_array ht h
 intro k hk
 have hkf := hf k hk
 rw [cells_pair] at hkf
 have hk2 : k < xs.length := by omega
 rw [List.getElem?_eq_getElem hk2] at hkf
 simp only [Prod.mk.injEq, DataW.agg.injEq] at hx
 have he : xs[k].1 = pairData tab[k] := by
  have := congrArg (fun l => l[k]?) hx.1
  simp only [List.getElem?_map, List.getElem?_eq_getElem hk, List.getElem?_eq_getElem hk2, Option.map_some, Option.some.injEq] at this
  exact this.symm
 have hp := trod_pair (x := tab[k]) (p := xs[k].2) (by rw [hkf, ← he])
 have g0 := congrArg (fun l => l[0]?) hp
 have g1 := congrArg (fun l => l[1]?) hp
 simp only [List.getElem?_take, List.getElem?_drop, List.getElem?_cons_zero, List.getElem?_cons_succ, Nat.add_zero] at g0 g1
 simp only [loOf, hiOf, List.getD_eq_getElem?_getD, List.getElem?_eq_getElem hk, Option.getD_some]
 exact ⟨by simpa using g0, by simpa using g1⟩
end
theorem pairs_of {W : World} {name : String} {g : Nat} {t : TypeId} {tab : List (Int × Int)} {cs : Array Value} {fuel : Nat} {p : List MemPlace} {base : Nat} {sp : Nat → Bool} {hd : Bool} {H : Type} {enc : TypeId × Value → H} (hg : Tryd.prog.globalNamed name = some g) (ht : Tryd.prog.underlying t = some (.array tab.length 126))
  (hv : W.var? Tryd.prog name = some cs) (h : DataW.trod enc Tryd.prog W base sp hd fuel t cs.toList = some (.agg (tab.map pairData), p)) (hn : 0 < tab.length) : Pairs W g tab.length (loOf tab) (hiOf tab) := by
 have hc := World.var?_cell hg hv
 have htb := trod_table ht h
 refine ⟨?_, fun k hk => ?_⟩
 ·have := (htb 0 hn).1
  have h0 := hc 0
  simp only [Nat.zero_mul, Array.getElem?_toList] at this
  rw [this] at h0
  exact block_lt_of_cell h0
 ·obtain ⟨h1, h2⟩ := htb k hk
  rw [hc, hc]
  exact ⟨by simpa using h1, by simpa using h2⟩
theorem tabs_of {W : World} (h : laidMetH Tryd.prog Rows.gridSizesRow.laid W) : Tabs W := by
 have h' : laidMet Tryd.prog Rows.gridSizesRow.laid W := h
 obtain ⟨ps, ⟨g, t, cs, fuel, p, q, hg, ht, hv, hd, ⟨g2, t2, cs2, fuel2, p2, q2, hg2, ht2, hv2, hd2, _⟩, _⟩, _⟩ := h'
 have e1 : Tryd.prog.globalNamed "scrollback/width.marks" = some 0 := by kernel_rfl
 have e2 : Tryd.prog.globalNamed "scrollback/width.wide" = some 1 := by kernel_rfl
 obtain rfl := Option.some.inj (e1.symm.trans hg)
 obtain rfl := Option.some.inj (e2.symm.trans hg2)
 have f1 : (Tryd.prog.globals[0]?).map (·.type) = some 127 := by kernel_rfl
 have f2 : (Tryd.prog.globals[1]?).map (·.type) = some 128 := by kernel_rfl
 obtain rfl := Option.some.inj (f1.symm.trans ht)
 obtain rfl := Option.some.inj (f2.symm.trans ht2)
 exact ⟨pairs_of (tab := marksTab) e1 Tryd.underlying127 hv hd (by decide), pairs_of (tab := wideTab) e2 Tryd.underlying128 hv2 hd2 (by decide)⟩
def setTab (n : Nat) (tab : List (Int × Int)) (h : Array Obj) : Array Obj := h.modify n fun
 | .cells _ t frozen => .cells (tab.flatMap fun x => [Value.int .i32 x.1, Value.int .i32 x.2]).toArray t frozen
 | o => o
noncomputable def laidWorld (os : Os) : World :=
 { World.holding Tryd.prog os ⟨#[], #[], []⟩ with heap := setTab 1 wideTab (setTab 0 marksTab (World.holding Tryd.prog os ⟨#[], #[], []⟩).heap) }
end Go.Proofs.YtppijfjigcoifaaDoor
