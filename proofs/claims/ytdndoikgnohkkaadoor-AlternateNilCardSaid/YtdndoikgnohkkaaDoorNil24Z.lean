/-
  AlternateNil: the law returns true.
-/
import Derived.Test.YtdndoikgnohkkaaDoorA4
set_option linter.unusedSimpArgs false
set_option linter.unusedVariables false
namespace Go.Proofs.YtdndoikgnohkkaaDoor
open Go.RowKit

def NoP (a : Option Addr) (os : List Ob) : Prop := a = none ∨ ∃ (p k : Nat), a = some ⟨p, 0, none⟩ ∧ os[k]? = some (Ob.box p 44 #[.pointer none, .pointer none, .int .i64 0, .int .i64 0, .pointer none])
theorem NoP.cons {a : Option Addr} {os : List Ob} (h : NoP a os) (o : Ob) : NoP a (o :: os) := by
 rcases h with h | ⟨p, k, h, h2⟩
 ·exact .inl h
 ·exact .inr ⟨p, k + 1, h, by simpa using h2⟩
theorem NoP.app {a : Option Addr} {os : List Ob} (h : NoP a os) (bs : List Ob) : NoP a (bs ++ os) := by
 induction bs with
 | nil => exact h
 | cons b bs ih => exact ih.cons b
section
variable {w0 w : World} {os : List Ob} {a : Option Addr}
theorem none_p (hS : Objs w0 w os) (hv : NoP a os) : Calls Tryd.prog 34 #[.pointer a] w fun e w' => e = .returned (.bool true) ∧ Objs w0 w' os := by
 rcases hv with rfl | ⟨p, k, rfl, hk⟩
 ·exact (pnone_nil w).mono fun e w' ⟨h1, h2⟩ => ⟨h1, h2 ▸ hS⟩
 ·exact pnone_zero hS hk
theorem Alternate_p (hS : Objs w0 w os) (hv : NoP a os) : Calls Tryd.prog 11 #[.pointer a] w fun e w' => e = .returned (.bool false) ∧ Objs w0 w' os := by
 rcases hv with rfl | ⟨p, k, rfl, hk⟩
 ·exact alt_nil hS
 ·exact alt_zero hS hk
theorem Mode_p (hS : Objs w0 w os) (hv : NoP a os) : Calls Tryd.prog 12 #[.pointer a] w fun e w' => e = .returned (.int .i64 0) ∧ Objs w0 w' os := by
 rcases hv with rfl | ⟨p, k, rfl, hk⟩
 ·exact mode_nil hS
 ·exact mode_is hS hk
theorem Grid_p (hS : Objs w0 w os) (hv : NoP a os) : Calls Tryd.prog 13 #[.pointer a] w fun e w' => e = .returned (.pointer none) ∧ Objs w0 w' os := by
 rcases hv with rfl | ⟨p, k, rfl, hk⟩
 ·exact Grid_nil hS
 ·exact Grid_zero hS hk
theorem Main_p (hS : Objs w0 w os) (hv : NoP a os) : Calls Tryd.prog 14 #[.pointer a] w fun e w' => e = .returned (.pointer none) ∧ Objs w0 w' os := by
 rcases hv with rfl | ⟨p, k, rfl, hk⟩
 ·exact Main_nil hS
 ·exact Main_zero hS hk
theorem Do_p (v : Value) (hS : Objs w0 w os) (hv : NoP a os) : Calls Tryd.prog 17 #[.pointer a, v] w fun e w' => e = .returned (.int .i64 1) ∧ Objs w0 w' os := by
 rcases hv with rfl | ⟨p, k, rfl, hk⟩
 ·exact Do_nil v hS
 ·exact Do_zero v hS hk
theorem Copy_p (hS : Objs w0 w os) (hv : NoP a os) : Calls Tryd.prog 15 #[.pointer a] w fun e w' => e = .returned (.pointer none) ∧ Objs w0 w' os := by
 have S := Lib.hid hS
 have HV := Lib.hid hv
 clear hS hv
 go_enter Tryd.func15, Tryd.ntmps15
 go_wp2_with fail
 refine (none_p S.out HV.out).mono ?_
 rintro e w1 ⟨rfl, hS⟩
 have S1 := Lib.hid hS
 clear hS
 go_wp2_with fail
 go_ret
 exact ⟨rfl, S1.out⟩
theorem Resize_p (v : Value) (hS : Objs w0 w os) (hv : NoP a os) : Calls Tryd.prog 16 #[.pointer a, v] w fun e w' => e = .returned (.int .i64 1) ∧ Objs w0 w' os := by
 have S := Lib.hid hS
 have HV := Lib.hid hv
 clear hS hv
 go_enter Tryd.func16, Tryd.ntmps16
 go_wp2_with fail
 refine (none_p S.out HV.out).mono ?_
 rintro e w1 ⟨rfl, hS⟩
 have S1 := Lib.hid hS
 clear hS
 go_wp2_with fail
 go_ret
 exact ⟨rfl, S1.out⟩
theorem Enter_p (n : Int) (x : Saved) (q : Pen) (hS : Objs w0 w os) (hv : NoP a os) : Calls Tryd.prog 9 #[.pointer a, .int .i64 n, .agg (sv x), .agg (pv q)] w fun e w' => e = .returned (.int .i64 1) ∧ Objs w0 w' os := by
 have S := Lib.hid hS
 have HV := Lib.hid hv
 clear hS hv
 go_enter Tryd.func9, Tryd.ntmps9
 go_upto_region 1 with (fail)
 refine at_objsC (S.out.alloc2 (c1 := sv x) (t1 := 35) (c2 := pv q) (t2 := 29)) (fun W hW => ?_)
 generalize w.heap.size + 1 = b7 at hW ⊢
 generalize w.heap.size = b6 at hW ⊢
 have S1 := Lib.hid hW
 clear hW S
 go_wp2_with fail
 refine (none_p S1.out ((HV.out.cons _).cons _)).mono ?_
 rintro e w1 ⟨rfl, hS⟩
 have S2 := Lib.hid hS
 clear hS S1
 go_wp2_with fail
 go_ret
 exact ⟨rfl, S2.out.tail.tail⟩
theorem Leave_p (n : Int) (q : Pen) (hS : Objs w0 w os) (hv : NoP a os) : Calls Tryd.prog 23 #[.pointer a, .int .i64 n, .agg (pv q)] w fun e w' => e = .returned (.tuple #[.agg (sv saved0), .bool false, .int .i64 1]) ∧ Objs w0 w' os := by
 have S := Lib.hid hS
 have HV := Lib.hid hv
 clear hS hv
 go_enter Tryd.func23, Tryd.ntmps23
 go_upto_region 1 with (fail)
 refine at_objsC (S.out.alloc2 (c1 := pv q) (t1 := 29) (c2 := sv saved0) (t2 := 35)) (fun W hW => ?_)
 generalize w.heap.size + 1 = b6 at hW ⊢
 generalize w.heap.size = b5 at hW ⊢
 have S1 := Lib.hid hW
 clear hW S
 go_wp2_with fail
 refine (none_p S1.out ((HV.out.cons _).cons _)).mono ?_
 rintro e w1 ⟨rfl, hS⟩
 have S2 := Lib.hid hS
 clear hS S1
 obtain ⟨hx6, hf6, hz6, hr6, hp6⟩ := (S2.out.box (k := 0) rfl).saved
 have hst6 := fun c => store_sv_row w1 b6 _ c (S2.out.box (k := 0) rfl) rfl
 go_wp2_with fail
 refine at_objsP (S2.out.rowBox 0 (ds := sv saved0) rfl) (fun W5 hW => ?_)
 have S5 := Lib.hid hW
 clear hW
 refine bodyPost_ret (results_cell3 Tryd.results23 _ _ b6 35 _ _ rfl (S5.out.box (k := 0) rfl) Tryd.underlying35 rfl (by rw [sv_size]; exact saved_size)) rfl ?_
 exact ⟨rfl, S5.out.tail.tail⟩
theorem Do_nilf {p : Nat} {s : Pr} (hS : Objs w0 w (pairO p s :: os)) : Calls Tryd.prog 17 #[.pointer (some ⟨p, 0, none⟩), .nilFunc] w fun e w' => e = .returned (.int .i64 2) ∧ Objs w0 w' (pairO p s :: os) := by
 obtain ⟨g, m, kv, ko, hK, hO⟩ := hS.openPair
 have HK := Lib.hid hK
 have S := Lib.hid hO
 clear hS hK hO
 go_enter Tryd.func17, Tryd.ntmps17
 go_wp2_with fail
 refine (pnone_no S.out (k := 0) rfl).mono ?_
 rintro e w1 ⟨rfl, hS⟩
 have S1 := Lib.hid hS
 clear hS S
 go_wp2_with fail
 go_ret
 exact ⟨rfl, S1.out.closePair HK.out⟩
end
set_option maxRecDepth 100000 in
set_option maxHeartbeats 8000000 in
theorem l24AlternateNil_any (n : Int) (s : Saved) (q : Pen) (w : World) (hT : Tabs w) : Calls Tryd.prog 3 #[.int .i64 n, .agg (sv s), .agg (pv q)] w fun e w' => e = .returned (.bool true) ∧ Below w.heap.size w w' := by
 have HT := Lib.hid hT
 clear hT
 go_enter Tryd.func3, Tryd.ntmps3
 go_upto_region 1 with (fail)
 refine at_objsC ((objs_start w).alloc2 (c1 := sv s) (t1 := 35) (c2 := pv q) (t2 := 29)) (fun W hW => ?_)
 generalize w.heap.size + 1 = b5 at hW ⊢
 generalize w.heap.size = b4 at hW ⊢
 have S0 := Lib.hid hW
 clear hW
 go_wp2_with fail
 refine (gridNew_yes 1 1 (by decide) (by decide) (by decide) (by decide) _ _ _ S0.out).mono ?_
 rintro e w1 ⟨g, rfl, hS⟩
 have S1 := Lib.hid hS
 clear hS S0
 go_upto_region 5 with (fail)
 refine at_objsC (S1.out.alloc1 (c1 := #[.bool false]) (t1 := 4)) (fun W2 hW => ?_)
 generalize w1.heap.size = b9 at hW ⊢
 have S2 := Lib.hid hW
 clear hW S1
 go_wp2_with fail
 have S3 := Lib.hid (S2.out.alloc2 (c1 := #[.pointer none, .pointer none, .int .i64 0, .int .i64 0, .pointer none]) (t1 := 44) (c2 := #[.pointer none, .pointer (some ⟨W2.heap.size, 0, none⟩)]) (t2 := 40))
 clear S2
 generalize W2.heap.size + 1 = b21 at S3 ⊢
 generalize W2.heap.size = b20 at S3 ⊢
 go_loopw [23] (fun vi wr => ∃ i : Nat, i ≤ 2 ∧ vi = .int .i64 i ∧ Objs w wr (.box b21 40 #[.pointer none, .pointer (some ⟨b20, 0, none⟩)] :: .box b20 44 #[.pointer none, .pointer none, .int .i64 0, .int .i64 0, .pointer none] :: .box b9 4 #[.bool false] :: .grid g 83 1 (newL 1 1) :: .box b5 29 (pv q) :: .box b4 35 (sv s) :: [])) (fun vi _ => 2 - (intOf vi).toNat)
 case atStart => exact ⟨0, by omega, rfl, S3.out⟩
 case round =>
  clear S3
  obtain ⟨i, hi, rfl, hS⟩ := hrel
  have S := Lib.hid hS
  clear hS
  by_cases hlt : i < 2
  case neg =>
   go_wp2_with fail
   refine (pairNew_yes 1 1 (by decide) (by decide) (by decide) (by decide) S.out).mono ?_
   rintro e w2 ⟨p, rfl, hS⟩
   have S1 := Lib.hid hS
   clear hS S
   obtain ⟨hx9, hf9, hz9⟩ := (S1.out.box (k := 3) rfl).facts
   go_wp2_with fail
   refine (Do_nilf S1.out).mono ?_
   rintro e w3 ⟨rfl, hS⟩
   have S2 := Lib.hid hS
   clear hS S1 hx9 hf9 hz9
   go_wp2_with fail
   refine (l24known_any _ (S2.out.tabs HT.out)).mono ?_
   rintro e w1 ⟨rfl, hb⟩
   have HB := Lib.hid (S2.out.bel hb).base
   clear hb
   go_wp2_with fail
   go_ret
   exact ⟨rfl, HB.out⟩
  obtain ⟨hx8, hf8, hz8⟩ := (S.out.box (k := 0) rfl).facts
  have hG : ∃ gp : Option Addr, Hid (#[Value.pointer none, .pointer (some ⟨b20, 0, none⟩)][i]? = some (.pointer gp)) ∧ Hid (NoP gp (.box b21 40 #[.pointer none, .pointer (some ⟨b20, 0, none⟩)] :: .box b20 44 #[.pointer none, .pointer none, .int .i64 0, .int .i64 0, .pointer none] :: .box b9 4 #[.bool false] :: .grid g 83 1 (newL 1 1) :: .box b5 29 (pv q) :: .box b4 35 (sv s) :: [])) := by
   have : i = 0 ∨ i = 1 := by omega
   rcases this with rfl | rfl
   ·exact ⟨none, Lib.hid rfl, Lib.hid (Or.inl rfl)⟩
   ·exact ⟨some ⟨b20, 0, none⟩, Lib.hid rfl, Lib.hid (Or.inr ⟨b20, 1, rfl, rfl⟩)⟩
  obtain ⟨gp, HV, HN⟩ := hG
  have hdi : decide ((i : Int) < 2) = true := by simp; omega
  have hxi := (hx8 i).trans HV.out
  clear hx8
  obtain ⟨hx4, hf4, hz4, hr4, hp4⟩ := (S.out.box (k := 5) rfl).saved
  obtain ⟨hx5, hf5, hz5⟩ := (S.out.box (k := 4) rfl).facts
  have hp5 := (S.out.box (k := 4) rfl).penAt
  go_wp2_with fail
  refine (Enter_p n s q S.out HN.out).mono ?_
  rintro e w2 ⟨rfl, hS⟩
  clear hxi hf8 hz8 hx4 hf4 hz4 hr4 hp4 hx5 hf5 hz5 hp5 S
  have S := Lib.hid hS
  clear hS
  obtain ⟨hx5, hf5, hz5⟩ := (S.out.box (k := 4) rfl).facts
  have hp5 := (S.out.box (k := 4) rfl).penAt
  go_wp2_with fail
  refine (leaves_true S.out (fun bs W h => Leave_p n q h (HN.out.app bs))).mono ?_
  rintro e w3 ⟨rfl, hS⟩
  clear hx5 hf5 hz5 hp5 S
  have S := Lib.hid hS
  clear hS
  go_wp2_with fail
  refine (Alternate_p S.out HN.out).mono ?_
  rintro e w4 ⟨rfl, hS⟩
  clear S
  have S := Lib.hid hS
  clear hS
  go_wp2_with fail
  refine (Mode_p S.out HN.out).mono ?_
  rintro e w5 ⟨rfl, hS⟩
  clear S
  have S := Lib.hid hS
  clear hS
  go_wp2_with fail
  refine (Grid_p S.out HN.out).mono ?_
  rintro e w6 ⟨rfl, hS⟩
  clear S
  have S := Lib.hid hS
  clear hS
  go_wp2_with fail
  refine (Main_p S.out HN.out).mono ?_
  rintro e w7 ⟨rfl, hS⟩
  clear S
  have S := Lib.hid hS
  clear hS
  go_wp2_with fail
  refine (Copy_p S.out HN.out).mono ?_
  rintro e w8 ⟨rfl, hS⟩
  clear S
  have S := Lib.hid hS
  clear hS
  go_wp2_with fail
  refine (Resize_p _ S.out HN.out).mono ?_
  rintro e w9 ⟨rfl, hS⟩
  clear S
  have S := Lib.hid hS
  clear hS
  go_wp2_with fail
  refine (Do_p _ S.out HN.out).mono ?_
  rintro e w10 ⟨rfl, hS⟩
  clear S
  have S := Lib.hid hS
  clear hS
  go_wp2_with fail
  refine (Do_p _ S.out HN.out).mono ?_
  rintro e w11 ⟨rfl, hS⟩
  clear S
  have S := Lib.hid hS
  clear hS
  go_wp2_with fail
  go_roundw
  case rel => exact ⟨i + 1, by omega, by go_num, S.out⟩
  case measure => simp [intOf]; omega
end Go.Proofs.YtdndoikgnohkkaaDoor
