/-
  PrinterNil: the law returns true.
-/
import Derived.Test.YtppijfjigcoifaaDoorS3
set_option linter.unusedSimpArgs false
set_option linter.unusedVariables false
namespace Go.Proofs.YtppijfjigcoifaaDoor
open Go.RowKit

theorem drop_bs {w0 W : World} {bs os : List Ob} (h : Objs w0 W (bs ++ os)) : Objs w0 W os := by
 induction bs with
 | nil => exact h
 | cons b bs ih => exact ih (show Objs w0 W (b :: (bs ++ os)) from h).tail
theorem rows_below {w : World} {f : FuncId} {args : Array Value} {v : Value} (h : Calls Tryd.prog f args w fun e w' => e = .returned v ∧ w = w') : Calls Tryd.prog f args w fun e w' => e = .returned v ∧ Below w.heap.size w w' :=
 h.mono fun e w' ⟨h1, h2⟩ => ⟨h1, h2 ▸ Below.refl _ _⟩
section
variable {w0 w : World} {os : List Ob} {gp : Value}
set_option maxHeartbeats 4000000 in
theorem prcheck_z (row col : Int) (pend : Bool) (hS : Objs w0 w os) (hr : ∀ W, Objs w0 W os → Calls Tryd.prog 17 #[gp] W fun e w' => e = .returned (.int .i64 0) ∧ Below W.heap.size W w') :
  Calls Tryd.prog 76 #[gp, .agg #[.int .i64 row, .int .i64 col, .bool pend]] w fun e w' => e = .returned (.int .i64 1) ∧ Objs w0 w' os := by
 have S0 := Lib.hid hS
 have HR := Lib.hid hr
 clear hS hr
 go_enter Tryd.func76, Tryd.ntmps76
 go_upto_region 1 with (fail)
 refine at_objsC (S0.out.alloc1 (c1 := #[.int .i64 row, .int .i64 col, .bool pend]) (t1 := 48)) (fun W hW => ?_)
 generalize w.heap.size = b1 at hW ⊢
 have S1 := Lib.hid hW
 clear hW S0
 go_wp2_with fail
 refine (HR.out _ S1.out.tail).mono ?_
 rintro e w1 ⟨rfl, hb⟩
 have S2 := Lib.hid (S1.out.bel hb)
 clear hb S1
 go_wp2_with fail
 go_ret
 exact ⟨rfl, S2.out.tail⟩
set_option maxHeartbeats 4000000 in
theorem Print_z (row col : Int) (pend auto ins : Bool) (r : Int) (q : Pen) (hS : Objs w0 w os) (hr : ∀ W, Objs w0 W os → Calls Tryd.prog 17 #[gp] W fun e w' => e = .returned (.int .i64 0) ∧ Below W.heap.size W w') :
  Calls Tryd.prog 38 #[gp, .agg #[.int .i64 row, .int .i64 col, .bool pend], .int .i32 r, .agg (pv q), .bool auto, .bool ins] w fun e w' => e = .returned (.tuple #[.agg #[.int .i64 0, .int .i64 0, .bool false], .int .i64 1]) ∧ Objs w0 w' os := by
 have S0 := Lib.hid hS
 have HR := Lib.hid hr
 clear hS hr
 go_enter Tryd.func38, Tryd.ntmps38
 go_upto_region 1 with (fail)
 refine at_objsC (S0.out.alloc3 (c1 := #[.int .i64 row, .int .i64 col, .bool pend]) (t1 := 48) (c2 := pv q) (t2 := 54) (c3 := #[.int .i64 0, .int .i64 0, .bool false]) (t3 := 48)) (fun W hW => ?_)
 generalize w.heap.size + 1 + 1 = b3 at hW ⊢
 generalize w.heap.size + 1 = b2 at hW ⊢
 generalize w.heap.size = b1 at hW ⊢
 have S1 := Lib.hid hW
 clear hW S0
 obtain ⟨hx1, hf1, hz1⟩ := (S1.out.box (k := 2) rfl).facts
 go_wp2_with fail
 clear hx1 hf1 hz1
 refine (prcheck_z row col pend S1.out (fun W' h => HR.out W' h.tail.tail.tail)).mono ?_
 rintro e w1 ⟨rfl, hS⟩
 have S2 := Lib.hid hS
 clear hS S1
 obtain ⟨hx3, hf3, hz3⟩ := (S2.out.box (k := 0) rfl).facts
 have SF := Lib.hid (S2.out.setCur 0 (r := 0) (c := 0) (b := false) rfl)
 go_wp2_with fail
 refine bodyPost_ret (results_ct Tryd.results38 _ _ b3 _ _ rfl (SF.out.box (k := 0) rfl) Tryd.underlying48 rfl pcursor_size) rfl ?_
 exact ⟨rfl, SF.out.tail.tail.tail⟩
set_option maxHeartbeats 4000000 in
theorem Wraps_z (row col : Int) (pend auto ins : Bool) (r : Int) (q : Pen) (hS : Objs w0 w os) (hr : ∀ W, Objs w0 W os → Calls Tryd.prog 17 #[gp] W fun e w' => e = .returned (.int .i64 0) ∧ Below W.heap.size W w') :
  Calls Tryd.prog 37 #[gp, .agg #[.int .i64 row, .int .i64 col, .bool pend], .int .i32 r, .bool auto] w fun e w' => e = .returned (.tuple #[.bool false, .int .i64 1]) ∧ Objs w0 w' os := by
 have S0 := Lib.hid hS
 have HR := Lib.hid hr
 clear hS hr
 go_enter Tryd.func37, Tryd.ntmps37
 go_upto_region 1 with (fail)
 refine at_objsC (S0.out.alloc1 (c1 := #[.int .i64 row, .int .i64 col, .bool pend]) (t1 := 48)) (fun W hW => ?_)
 generalize w.heap.size = b1 at hW ⊢
 have S1 := Lib.hid hW
 clear hW S0
 obtain ⟨hx1, hf1, hz1⟩ := (S1.out.box (k := 0) rfl).facts
 go_wp2_with fail
 clear hx1 hf1 hz1
 refine (prcheck_z row col pend S1.out (fun W' h => HR.out W' h.tail)).mono ?_
 rintro e w1 ⟨rfl, hS⟩
 have S2 := Lib.hid hS
 clear hS S1
 go_wp2_with fail
 go_ret2
 exact ⟨rfl, S2.out.tail⟩
set_option maxHeartbeats 4000000 in
theorem Mark_z (row col : Int) (pend auto ins : Bool) (r : Int) (q : Pen) (hS : Objs w0 w os) (hr : ∀ W, Objs w0 W os → Calls Tryd.prog 17 #[gp] W fun e w' => e = .returned (.int .i64 0) ∧ Below W.heap.size W w') :
  Calls Tryd.prog 40 #[gp, .agg #[.int .i64 row, .int .i64 col, .bool pend], .int .i32 r] w fun e w' => e = .returned (.tuple #[.bool false, .int .i64 1]) ∧ Objs w0 w' os := by
 have S0 := Lib.hid hS
 have HR := Lib.hid hr
 clear hS hr
 go_enter Tryd.func40, Tryd.ntmps40
 go_upto_region 1 with (fail)
 refine at_objsC (S0.out.alloc1 (c1 := #[.int .i64 row, .int .i64 col, .bool pend]) (t1 := 48)) (fun W hW => ?_)
 generalize w.heap.size = b1 at hW ⊢
 have S1 := Lib.hid hW
 clear hW S0
 obtain ⟨hx1, hf1, hz1⟩ := (S1.out.box (k := 0) rfl).facts
 go_wp2_with fail
 clear hx1 hf1 hz1
 refine (prcheck_z row col pend S1.out (fun W' h => HR.out W' h.tail)).mono ?_
 rintro e w1 ⟨rfl, hS⟩
 have S2 := Lib.hid hS
 clear hS S1
 go_wp2_with fail
 go_ret2
 exact ⟨rfl, S2.out.tail⟩
end
set_option maxRecDepth 100000 in
set_option maxHeartbeats 8000000 in
theorem l16PrinterNil_any (ro co : Int) (pe : Bool) (a : Act16) (w : World) (hT : Tabs w) : Calls Tryd.prog 5 #[.agg #[.int .i64 ro, .int .i64 co, .bool pe], .agg (av16 a)] w fun e w' => e = .returned (.bool true) ∧ Below w.heap.size w w' := by
 have HT := Lib.hid hT
 clear hT
 go_enter Tryd.func5, Tryd.ntmps5
 go_upto_region 1 with (fail)
 refine at_objsC ((objs_start w).alloc2 (c1 := #[.int .i64 ro, .int .i64 co, .bool pe]) (t1 := 48) (c2 := av16 a) (t2 := 56)) (fun W hW => ?_)
 generalize w.heap.size + 1 = b3 at hW ⊢
 generalize w.heap.size = b2 at hW ⊢
 have S2 := Lib.hid hW
 clear hW
 go_wp2_with fail
 have S3 := Lib.hid (S2.out.alloc2 (c1 := #[.int .i64 0, .slice none 0 0]) (t1 := 58) (c2 := #[.pointer none, .pointer (some ⟨W.heap.size, 0, none⟩)]) (t2 := 22))
 clear S2
 generalize W.heap.size + 1 = b5 at S3 ⊢
 generalize W.heap.size = b4 at S3 ⊢
 go_loopw [6, 11] (fun _ vi wr => ∃ i : Nat, i ≤ 2 ∧ vi = .int .i64 i ∧ Objs w wr (.box b5 22 #[.pointer none, .pointer (some ⟨b4, 0, none⟩)] :: .box b4 58 #[.int .i64 0, .slice none 0 0] :: .box b3 56 (av16 a) :: .box b2 48 #[.int .i64 ro, .int .i64 co, .bool pe] :: [])) (fun _ vi _ => 2 - (intOf vi).toNat)
 case atStart => exact ⟨0, by omega, rfl, S3.out⟩
 case round =>
  clear S3
  obtain ⟨i, hi, rfl, hS⟩ := hrel
  have S := Lib.hid hS
  clear hS
  by_cases hlt : i < 2
  case neg =>
   go_wp2_with fail
   refine (l16known_any _ (S.out.tabs HT.out)).mono ?_
   rintro e w1 ⟨rfl, hb⟩
   have HB := Lib.hid (S.out.bel hb).base
   clear hb
   go_wp2_with fail
   go_ret
   exact ⟨rfl, HB.out⟩
  obtain ⟨hx8, hf8, hz8⟩ := (S.out.box (k := 0) rfl).facts
  have hG : ∃ gp : Option Addr, Hid (#[Value.pointer none, .pointer (some ⟨b4, 0, none⟩)][i]? = some (.pointer gp)) ∧ Hid (∀ W, Objs w W (.box b5 22 #[.pointer none, .pointer (some ⟨b4, 0, none⟩)] :: .box b4 58 #[.int .i64 0, .slice none 0 0] :: .box b3 56 (av16 a) :: .box b2 48 #[.int .i64 ro, .int .i64 co, .bool pe] :: []) → Calls Tryd.prog 17 #[.pointer gp] W fun e w' => e = .returned (.int .i64 0) ∧ Below W.heap.size W w') := by
   have : i = 0 ∨ i = 1 := by omega
   rcases this with rfl | rfl
   ·exact ⟨none, Lib.hid rfl, Lib.hid (fun W h => rows_below (Rows_nil W))⟩
   ·exact ⟨some ⟨b4, 0, none⟩, Lib.hid rfl, Lib.hid (fun W h => rows_below (Rows_blk (h.box (k := 1) rfl)))⟩
  obtain ⟨gp, HV, HRW⟩ := hG
  have hdi : decide ((i : Int) < 2) = true := by simp; omega
  have hxi := (hx8 i).trans HV.out
  clear hx8
  obtain ⟨hx2, hf2, hz2⟩ := (S.out.box (k := 3) rfl).facts
  obtain ⟨hx3, hf3, hz3, hr3, hp3⟩ := (S.out.box (k := 2) rfl).act16
  go_wp2_with fail
  clear hx2 hf2 hz2 hx3 hf3 hz3 hr3 hp3
  refine (l16prints_true S.out (fun bs W hb hW => Print_z ro co pe a.auto a.ins a.r a.q hW (fun W' h => HRW.out W' (drop_bs h)))).mono ?_
  rintro e w3 ⟨rfl, hS⟩
  have S4 := Lib.hid hS
  clear hS S
  obtain ⟨hx2, hf2, hz2⟩ := (S4.out.box (k := 3) rfl).facts
  obtain ⟨hx3, hf3, hz3, hr3, hp3⟩ := (S4.out.box (k := 2) rfl).act16
  go_wp2_with fail
  clear hx2 hf2 hz2 hx3 hf3 hz3 hr3 hp3
  refine (l16wraps_true S4.out (fun bs W hb hW => Wraps_z ro co pe a.auto a.ins a.r a.q hW (fun W' h => HRW.out W' (drop_bs h)))).mono ?_
  rintro e w4 ⟨rfl, hS⟩
  have S5 := Lib.hid hS
  clear hS S4
  obtain ⟨hx2, hf2, hz2⟩ := (S5.out.box (k := 3) rfl).facts
  obtain ⟨hx3, hf3, hz3, hr3, hp3⟩ := (S5.out.box (k := 2) rfl).act16
  go_wp2_with fail
  clear hx2 hf2 hz2 hx3 hf3 hz3 hr3 hp3
  refine (l16marks_true S5.out (fun bs W hb hW => Mark_z ro co pe a.auto a.ins a.r a.q hW (fun W' h => HRW.out W' (drop_bs h)))).mono ?_
  rintro e w5 ⟨rfl, hS⟩
  have S6 := Lib.hid hS
  clear hS S5
  go_wp2_with fail
  go_roundw
  case rel => exact ⟨i + 1, by omega, by go_num, S6.out⟩
  case measure => simp [intOf]; omega
end Go.Proofs.YtppijfjigcoifaaDoor
