/-
  Part 5 of the texts on which the proofs of this seat stand: each part says ahead of it what it shows.
-/
import Derived.Test.YtdndoikgnohkkaaDoorC4
import Derived.Deep.DeepCutAuto
import Derived.Deep.CutBlock
import Derived.ProofKit
import Derived.OpenShut
import Derived.Deep.Slices
import Derived.Lib.LaidTab
import Derived.ChangeSame
import Derived.Carry
import Derived.Test.YtdndoikgnohkkaaDoorCards
import Derived.Test.YtdndoikgnohkkaaDoorTie
import Derived.WalkKit
import Derived.Deep.DeepHandedRow
set_option linter.unusedSimpArgs false
set_option linter.unusedVariables false
namespace Go.Proofs.YtdndoikgnohkkaaDoor
open Go.RowKit

theorem fit_snoc {Ls : List Ln} {i : Nat} {f : Ln → Ln} {x : List Cell} {s : Bool} (h : i < Ls.length) (hx : f Ls[i] = (x, s)) : (Ls.take i).map f ++ [(x, s)] = (Ls.take (i + 1)).map f := by
 rw [List.take_add_one, List.getElem?_eq_getElem h, List.map_append, ← hx]; rfl
set_option maxRecDepth 100000 in
set_option maxHeartbeats 4000000 in
theorem gridOf_yes (A : Option Addr) (c : Nat) (Ls : List Ln) (cols : Nat) (w : World) (hT : Tabs w) (ha : RdL w A c Ls) (h1 : 1 ≤ cols) (h2 : cols ≤ 1000) (h3 : 1 ≤ Ls.length) (h4 : Ls.length ≤ 1000) (hx : ∀ l ∈ Ls, l.1.length ≤ 100000) (hv : ∀ l ∈ Ls, lineOk l.1 = true) :
  Calls Tryd.prog 24 #[.int .i64 cols, .slice A Ls.length c] w fun e w' => ∃ p, e = .returned (.tuple #[.pointer (some ⟨p, 0, none⟩), .int .i64 0]) ∧ Objs w w' [.grid p 83 cols (Ls.map (fun l : Ln => (fitTo cols l.1, l.2)))] := by
 have HT := Lib.hid hT
 have HA := Lib.hid ha
 have HX := Lib.hid hx
 have HV := Lib.hid hv
 clear hT ha hx hv
 go_enter Tryd.func24, Tryd.ntmps24
 go_wp2_with fail
 refine at_objsC (objs_start w).alloc1 (fun W S1 => ?_)
 generalize w.heap.size = p at S1 ⊢
 have S0 := Lib.hid S1.nilLines
 clear S1
 go_loopw [8, 9, 10, 32] (fun _ _ _ vi wr => ∃ (i : Nat) (v : Value), i ≤ Ls.length ∧ vi = .int .i64 i ∧ Objs w wr [.lines v ((Ls.take i).map (fun l : Ln => (fitTo cols l.1, l.2))), .box p 83 #[.int .i64 ↑cols, v]]) (fun _ _ _ vi _ => Ls.length - (intOf vi).toNat)
 case atStart => exact ⟨0, _, Nat.zero_le _, rfl, S0.out⟩
 case round =>
 clear S0
 obtain ⟨i, v, hi, rfl, hS⟩ := hrel
 have S := Lib.hid hS
 clear hS
 by_cases hlt : i < Ls.length
 case neg =>
  obtain rfl : i = Ls.length := by omega
  have SG := Lib.hid (S.out.closeGrid (k := 0) rfl)
  clear S
  go_wp2_with fail
  go_ret2
  exact ⟨p, rfl, by have h := SG.out; rw [List.take_length] at h; exact h⟩
 have HL := Lib.hid (show Ls[i]? = some Ls[i] by simp [hlt])
 have HLL := Lib.hid (show ((Ls.take i).map (fun l : Ln => (fitTo cols l.1, l.2))).length ≤ 1000000 by simp; omega)
 have HLI := Lib.hid (HX.out Ls[i] (List.getElem_mem _))
 obtain ⟨b, off, Ai, ci, rfl, hzb, hc1, hc2, hri⟩ := (HA.out.bel S.out.base).at_ HL.out
 have HRI := Lib.hid (hri.bel (belA _ (.cells #[.slice Ai Ls[i].1.length ci, .bool Ls[i].2] 86)))
 have S1 := Lib.hid (S.out.alloc1 (c1 := #[.slice Ai Ls[i].1.length ci, .bool Ls[i].2]) (t1 := 86))
 have hb0 : (0 : Int) ≤ (i : Int) := by omega
 have hb1 : (i : Int) < (Ls.length : Int) := by omega
 clear hri
 have HVI := Lib.hid (show lineOk Ls[i].1 = true from HV.out _ (List.getElem_mem _))
 go_wp2_with fail
 refine (show Calls Tryd.prog 45 #[.agg #[.slice Ai Ls[i].1.length ci, .bool Ls[i].2], .int .i64 cols] _ _ from fit_yes Ai ci Ls[i].1 Ls[i].2 cols h2 HT.out S1.out HRI.out HLI.out HVI.out).mono ?_
 rintro e w1 ⟨v3, rfl, hS⟩
 obtain ⟨Af, cf, rfl, -⟩ := hS.cellsRd (k := 0) rfl
 have S2 := Lib.hid (hS.alloc1 (c1 := #[.slice Af (fitTo cols Ls[i].1).length cf, .bool Ls[i].2]) (t1 := 86))
 clear hS S1 HRI hzb hc1 hc2
 go_upto_region 10 with (fail)
 generalize w1.heap.size = bl at S2 ⊢
 generalize hnf : (fitTo cols Ls[i].1).length = nf at S2 ⊢
 generalize hsf : Ls[i].2 = sf at S2 ⊢
 have HSF := Lib.hid hsf
 clear hnf hsf
 have SX := Lib.hid (show Objs w _ [.none, .lines v ((Ls.take i).map (fun l : Ln => (fitTo cols l.1, l.2))), .box p 83 #[.int .i64 ↑cols, v], .box bl 86 #[.slice Af nf cf, .bool sf], .cells (.slice Af nf cf) (fitTo cols Ls[i].1)] from by
  have h := S2.out
  exact Objs.pick (σ := [_, _, _, _, _]) (os := []) h [none, some 3, some 4, some 0, some 1] (by decide) rfl)
 clear S2
 refine wp_region_stage (w0 := w) (os := []) (by kernel_rfl) (by kernel_rfl) (by kernel_rfl) [(0, 6, [6], fun vs => .box (blkOf (vs 6)) 86 #[.slice Af nf cf, .bool sf]), (1, 7, [7], fun vs => .lines (vs 7) (((Ls.take i).map (fun l : Ln => (fitTo cols l.1, l.2))) ++ [((fitTo cols Ls[i].1), sf)])), (4, 7, [], fun vs => .none), (2, 10, [7], fun vs => .box p 83 #[.int .i64 ↑cols, vs 7])] [[], [], [], [], [2], [3], [0], [0, 1, 4], [], [], [2]] [.none, .lines v ((Ls.take i).map (fun l : Ln => (fitTo cols l.1, l.2))), .box p 83 #[.int .i64 ↑cols, v], .box bl 86 #[.slice Af nf cf, .bool sf], .cells (.slice Af nf cf) (fitTo cols Ls[i].1)] (fun opn u => match opn with | 0 => u = .pointer (some ⟨p, 0, none⟩) | 1 => u = .pointer (some ⟨p, 0, none⟩) | 2 => u = .pointer (some ⟨p, 0, none⟩) | 3 => u = .pointer (some ⟨p, 1, none⟩) | 4 => u = (v : Value) | 5 => u = .agg #[.slice Af nf cf, .bool sf] | 6 => ∃ g, u = .slice (some ⟨g, 0, none⟩) 1 1 | 7 => ∃ A n c, u = .slice A n c | 8 => u = .pointer (some ⟨p, 0, none⟩) | 9 => u = .pointer (some ⟨p, 1, none⟩) | 10 => True | _ => True) (fun vs => [.box (blkOf (vs 6)) 86 #[.slice Af nf cf, .bool sf], .lines (vs 7) (((Ls.take i).map (fun l : Ln => (fitTo cols l.1, l.2))) ++ [((fitTo cols Ls[i].1), sf)]), .box p 83 #[.int .i64 ↑cols, vs 7], .box bl 86 #[.slice Af nf cf, .bool sf], .none]) (by kernel_rfl) (fun vs => by rfl) SX.out ?_ ?_
 ·apply sc
  ·intro a w' vs σ hS hl hs hk
   have f6 : a.tmps[6]?.getD undef = .pointer (some ⟨p, 0, none⟩) := sof hk
   exact rp (pt p 0) (by simp [execOp, Act.eval, f6, go_sem]) hl hs hS
  apply sc
  ·intro a w' vs σ hS hl hs hk
   have f6 : a.tmps[6]?.getD undef = .pointer (some ⟨p, 0, none⟩) := sof hk
   exact rp (pt p 0) (by simp [execOp, Act.eval, f6, go_sem]) hl hs hS
  apply sc
  ·intro a w' vs σ hS hl hs hk
   have f45 : a.tmps[45]?.getD undef = .pointer (some ⟨p, 0, none⟩) := svf hk 1
   exact rp (pt p 0) (by simp [execOp, Act.eval, f45, go_sem]) hl hs hS
  apply sc
  ·intro a w' vs σ hS hl hs hk
   have f46 : a.tmps[46]?.getD undef = .pointer (some ⟨p, 0, none⟩) := svf hk 2
   exact rp (pt p 1) (by simp [execOp, Act.eval, f46, go_sem]) hl hs hS
  apply sc
  ·intro a w' vs σ hS hl hs hk
   have f47 : a.tmps[47]?.getD undef = .pointer (some ⟨p, 1, none⟩) := svf hk 3
   have hx := (hS.box (sg (hs 2 (by decide)))).cell
   exact rp v (by simp [execOp, Act.eval, f47, go_sem, hx]) hl hs hS
  apply sc
  ·intro a w' vs σ hS hl hs hk
   have f9 : a.tmps[9]?.getD undef = .pointer (some ⟨bl, 0, none⟩) := sof hk
   have hx := (hS.box (sg (hs 3 (by decide)))).cell
   exact rp (.agg #[.slice Af nf cf, .bool sf]) (by simp [execOp, Act.eval, f9, go_sem, hx]) hl hs hS
  apply sc
  ·intro a w' vs σ hS hl hs hk
   have f49 : a.tmps[49]?.getD undef = .agg #[.slice Af nf cf, .bool sf] := svf hk 5
   have h1 : σ[0]? = some .none := hs 0 (by decide)
   exact rs_run (wanted_none rfl) (exec_bsl rfl (by simp [Act.eval, f49]) (run_bsl (.slice Af nf cf) sf w')) (sp_set 0 (.box w'.heap.size 86 #[.slice Af nf cf, .bool sf]) (by kernel_rfl) (by simp) (by decide) hl hs (by rfl) (hS.alloc1.place (sg h1)) ⟨_, rfl⟩)
  apply sc
  ·intro a w' vs σ hS hl hs hk
   have e48 : a.tmps.getD 48 undef = (v : Value) := svv hk 4
   have e50 : a.tmps.getD 50 undef = vs 6 := sk_val hk 6 (by kernel_rfl) rfl rfl
   have p50 : (fun u : Value => ∃ g, u = .slice (some ⟨g, 0, none⟩) 1 1) (vs 6) := (hk.1 6 (by kernel_rfl)).1
   have h2 : σ[1]? = some (.lines v ((Ls.take i).map (fun l : Ln => (fitTo cols l.1, l.2)))) := hs 1 (by decide)
   have h0 : σ[4]? = some (.cells (.slice Af nf cf) (fitTo cols Ls[i].1)) := hs 4 (by decide)
   have h1 : σ[0]? = some (.box (blkOf (vs 6)) 86 #[.slice Af nf cf, .bool sf]) := hs 0 (by decide)
   obtain ⟨g8, hg8⟩ := p50
   rw [hg8, show blkOf (.slice (some ⟨g8, 0, none⟩) 1 1) = g8 from rfl] at h1
   obtain ⟨v9, w9, hr, hS2, A9, c9, hv9⟩ := run_appL hS (k := 1) (j := 4) (ad := ⟨g8, 0, none⟩) (c := 1) (s := sf) (sg h2) (sg h0) (by decide) (by rw [(hS.box (sg h1)).cell]; rfl) (by rw [add_at, (hS.box (sg h1)).cell]; rfl) HLL.out 64
   exact rs_run (wanted_none rfl) (exec_app rfl (by simp only [Act.eval]; exact e48) (by simp only [Act.eval]; exact e50.trans hg8) hr) (sp_set2 1 4 (.lines v9 (((Ls.take i).map (fun l : Ln => (fitTo cols l.1, l.2))) ++ [((fitTo cols Ls[i].1), sf)])) .none (by decide) (by kernel_rfl) (by simp) (by simp) (by decide) (by decide) hl hs (by rfl) (by rfl) hS2 ⟨A9, _, c9, hv9⟩)
  apply sc
  ·intro a w' vs σ hS hl hs hk
   have f44 : a.tmps[44]?.getD undef = .pointer (some ⟨p, 0, none⟩) := svf hk 0
   exact rp (pt p 0) (by simp [execOp, Act.eval, f44, go_sem]) hl hs hS
  apply sc
  ·intro a w' vs σ hS hl hs hk
   have f52 : a.tmps[52]?.getD undef = .pointer (some ⟨p, 0, none⟩) := svf hk 8
   exact rp (pt p 1) (by simp [execOp, Act.eval, f52, go_sem]) hl hs hS
  apply sc
  ·intro a w' vs σ hS hl hs hk
   have f53 : a.tmps[53]?.getD undef = .pointer (some ⟨p, 1, none⟩) := svf hk 9
   have e51 : a.tmps.getD 51 undef = vs 7 := sk_val hk 7 (by kernel_rfl) rfl rfl
   have p51 : (fun u : Value => ∃ A n c, u = .slice A n c) (vs 7) := (hk.1 7 (by kernel_rfl)).1
   have f51 := gd e51
   have h3 : σ[2]? = some (.box p 83 #[.int .i64 ↑cols, v]) := hs 2 (by decide)
   obtain ⟨hx, hf, hz⟩ := (hS.box (sg h3)).facts
   obtain ⟨A9, n9, c9, q9⟩ := p51
   exact rstep_store (w2 := w'.setCell ⟨p, 1, none⟩ (.slice A9 n9 c9)) (wanted_none rfl) rfl (by simp [execOp, Act.eval, f53, e51, f51, q9, hx, hf, hz, go_sem]) (sp_set 2 (.box p 83 #[.int .i64 ↑cols, vs 7]) (by kernel_rfl) (by simp) (by decide) hl hs (by rfl) (by rw [q9]; exact hS.setBox 2 (sg h3)) trivial) trivial
  exact SSteps.nil
 ·intro vs w' hS hv
  have q0 : vs 0 = _ := hv 0 (by decide)
  have q1 : vs 1 = _ := hv 1 (by decide)
  have q2 : vs 2 = _ := hv 2 (by decide)
  have q3 : vs 3 = _ := hv 3 (by decide)
  have q4 : vs 4 = _ := hv 4 (by decide)
  have q5 : vs 5 = _ := hv 5 (by decide)
  have q8 : vs 8 = _ := hv 8 (by decide)
  have q9 : vs 9 = _ := hv 9 (by decide)
  have S2 := Lib.hid hS
  simp only [putL, Act.put, Nat.zero_add, Nat.reduceAdd, List.setIfInBounds_toArray, List.set_cons_succ, List.set_cons_zero, q0, q1, q2, q3, q4, q5, q8, q9]
  clear hS hv q0 q1 q2 q3 q4 q5 q8 q9
  have S3 := Lib.hid ((((show Objs w _ (_ :: _ :: _ :: _ :: _ :: []) from S2.out).del 4).del 3).del 0)
  clear S2
  go_wp2_with fail
  go_roundw
  case rel => exact ⟨i + 1, vs 7, by omega, by go_num, by have h := S3.out; rw [fit_snoc hlt (by rw [← HSF.out])] at h; exact h⟩
  case measure => simp [intOf]; omega
set_option maxRecDepth 100000 in
set_option maxHeartbeats 4000000 in
theorem gridOf_bad (A : Option Addr) (c : Nat) (Ls : List Ln) (cols : Nat) (w : World) (hT : Tabs w) (ha : RdL w A c Ls) (h1 : 1 ≤ cols) (h2 : cols ≤ 1000) (h3 : 1 ≤ Ls.length) (h4 : Ls.length ≤ 1000) (hx : ∀ l ∈ Ls, l.1.length ≤ 100000) (hv : ∃ l, l ∈ Ls ∧ lineOk l.1 = false) :
  Calls Tryd.prog 24 #[.int .i64 cols, .slice A Ls.length c] w fun e w' => e = .returned (.tuple #[.pointer none, .int .i64 2]) ∧ Below w.heap.size w w' := by
 have HT := Lib.hid hT
 have HA := Lib.hid ha
 have HX := Lib.hid hx
 have HV := Lib.hid hv
 clear hT ha hx hv
 go_enter Tryd.func24, Tryd.ntmps24
 go_wp2_with fail
 refine at_objsC (objs_start w).alloc1 (fun W S1 => ?_)
 generalize w.heap.size = p at S1 ⊢
 have S0 := Lib.hid S1.nilLines
 clear S1
 go_loopw [8, 9, 10, 32] (fun _ _ _ vi wr => ∃ (i : Nat) (v : Value), i ≤ Ls.length ∧ vi = .int .i64 i ∧ Hid (∀ (k : Nat) (hk : k < Ls.length), k < i → lineOk Ls[k].1 = true) ∧ Objs w wr [.lines v ((Ls.take i).map (fun l : Ln => (fitTo cols l.1, l.2))), .box p 83 #[.int .i64 ↑cols, v]]) (fun _ _ _ vi _ => Ls.length - (intOf vi).toNat)
 case atStart => exact ⟨0, _, Nat.zero_le _, rfl, Lib.hid (fun k hk h => by omega), S0.out⟩
 case round =>
 clear S0
 obtain ⟨i, v, hi, rfl, HALL, hS⟩ := hrel
 have S := Lib.hid hS
 clear hS
 by_cases hlt : i < Ls.length
 case neg =>
  obtain rfl : i = Ls.length := by omega
  exact (HV.out.elim fun l hl => by
   obtain ⟨k, hk, rfl⟩ := List.getElem_of_mem hl.1
   have := HALL.out k hk (by omega)
   rw [hl.2] at this; cases this)
 have HL := Lib.hid (show Ls[i]? = some Ls[i] by simp [hlt])
 have HLL := Lib.hid (show ((Ls.take i).map (fun l : Ln => (fitTo cols l.1, l.2))).length ≤ 1000000 by simp; omega)
 have HLI := Lib.hid (HX.out Ls[i] (List.getElem_mem _))
 obtain ⟨b, off, Ai, ci, rfl, hzb, hc1, hc2, hri⟩ := (HA.out.bel S.out.base).at_ HL.out
 have HRI := Lib.hid (hri.bel (belA _ (.cells #[.slice Ai Ls[i].1.length ci, .bool Ls[i].2] 86)))
 have S1 := Lib.hid (S.out.alloc1 (c1 := #[.slice Ai Ls[i].1.length ci, .bool Ls[i].2]) (t1 := 86))
 have hb0 : (0 : Int) ≤ (i : Int) := by omega
 have hb1 : (i : Int) < (Ls.length : Int) := by omega
 clear hri
 by_cases hvi : lineOk Ls[i].1 = true
 case neg =>
  have HVI := Lib.hid (show lineOk Ls[i].1 = false by simpa using hvi)
  go_wp2_with fail
  refine (show Calls Tryd.prog 45 #[.agg #[.slice Ai Ls[i].1.length ci, .bool Ls[i].2], .int .i64 cols] _ _ from fit_no Ai ci Ls[i].1 Ls[i].2 cols HT.out S1.out HRI.out HLI.out HVI.out).mono ?_
  rintro e w1 ⟨rfl, hS⟩
  have S2 := Lib.hid (hS.alloc1 (c1 := #[.slice none 0 0, .bool false]) (t1 := 86)).base
  clear hS
  go_wp2_with fail
  go_ret2
  exact ⟨rfl, S2.out⟩
 have HVI := Lib.hid hvi
 go_wp2_with fail
 refine (show Calls Tryd.prog 45 #[.agg #[.slice Ai Ls[i].1.length ci, .bool Ls[i].2], .int .i64 cols] _ _ from fit_yes Ai ci Ls[i].1 Ls[i].2 cols h2 HT.out S1.out HRI.out HLI.out HVI.out).mono ?_
 rintro e w1 ⟨v3, rfl, hS⟩
 obtain ⟨Af, cf, rfl, -⟩ := hS.cellsRd (k := 0) rfl
 have S2 := Lib.hid (hS.alloc1 (c1 := #[.slice Af (fitTo cols Ls[i].1).length cf, .bool Ls[i].2]) (t1 := 86))
 clear hS S1 HRI hzb hc1 hc2
 go_upto_region 10 with (fail)
 generalize w1.heap.size = bl at S2 ⊢
 generalize hnf : (fitTo cols Ls[i].1).length = nf at S2 ⊢
 generalize hsf : Ls[i].2 = sf at S2 ⊢
 have HSF := Lib.hid hsf
 clear hnf hsf
 have SX := Lib.hid (show Objs w _ [.none, .lines v ((Ls.take i).map (fun l : Ln => (fitTo cols l.1, l.2))), .box p 83 #[.int .i64 ↑cols, v], .box bl 86 #[.slice Af nf cf, .bool sf], .cells (.slice Af nf cf) (fitTo cols Ls[i].1)] from by
  have h := S2.out
  exact Objs.pick (σ := [_, _, _, _, _]) (os := []) h [none, some 3, some 4, some 0, some 1] (by decide) rfl)
 clear S2
 refine wp_region_stage (w0 := w) (os := []) (by kernel_rfl) (by kernel_rfl) (by kernel_rfl) [(0, 6, [6], fun vs => .box (blkOf (vs 6)) 86 #[.slice Af nf cf, .bool sf]), (1, 7, [7], fun vs => .lines (vs 7) (((Ls.take i).map (fun l : Ln => (fitTo cols l.1, l.2))) ++ [((fitTo cols Ls[i].1), sf)])), (4, 7, [], fun vs => .none), (2, 10, [7], fun vs => .box p 83 #[.int .i64 ↑cols, vs 7])] [[], [], [], [], [2], [3], [0], [0, 1, 4], [], [], [2]] [.none, .lines v ((Ls.take i).map (fun l : Ln => (fitTo cols l.1, l.2))), .box p 83 #[.int .i64 ↑cols, v], .box bl 86 #[.slice Af nf cf, .bool sf], .cells (.slice Af nf cf) (fitTo cols Ls[i].1)] (fun opn u => match opn with | 0 => u = .pointer (some ⟨p, 0, none⟩) | 1 => u = .pointer (some ⟨p, 0, none⟩) | 2 => u = .pointer (some ⟨p, 0, none⟩) | 3 => u = .pointer (some ⟨p, 1, none⟩) | 4 => u = (v : Value) | 5 => u = .agg #[.slice Af nf cf, .bool sf] | 6 => ∃ g, u = .slice (some ⟨g, 0, none⟩) 1 1 | 7 => ∃ A n c, u = .slice A n c | 8 => u = .pointer (some ⟨p, 0, none⟩) | 9 => u = .pointer (some ⟨p, 1, none⟩) | 10 => True | _ => True) (fun vs => [.box (blkOf (vs 6)) 86 #[.slice Af nf cf, .bool sf], .lines (vs 7) (((Ls.take i).map (fun l : Ln => (fitTo cols l.1, l.2))) ++ [((fitTo cols Ls[i].1), sf)]), .box p 83 #[.int .i64 ↑cols, vs 7], .box bl 86 #[.slice Af nf cf, .bool sf], .none]) (by kernel_rfl) (fun vs => by rfl) SX.out ?_ ?_
 ·apply sc
  ·intro a w' vs σ hS hl hs hk
   have f6 : a.tmps[6]?.getD undef = .pointer (some ⟨p, 0, none⟩) := sof hk
   exact rp (pt p 0) (by simp [execOp, Act.eval, f6, go_sem]) hl hs hS
  apply sc
  ·intro a w' vs σ hS hl hs hk
   have f6 : a.tmps[6]?.getD undef = .pointer (some ⟨p, 0, none⟩) := sof hk
   exact rp (pt p 0) (by simp [execOp, Act.eval, f6, go_sem]) hl hs hS
  apply sc
  ·intro a w' vs σ hS hl hs hk
   have f45 : a.tmps[45]?.getD undef = .pointer (some ⟨p, 0, none⟩) := svf hk 1
   exact rp (pt p 0) (by simp [execOp, Act.eval, f45, go_sem]) hl hs hS
  apply sc
  ·intro a w' vs σ hS hl hs hk
   have f46 : a.tmps[46]?.getD undef = .pointer (some ⟨p, 0, none⟩) := svf hk 2
   exact rp (pt p 1) (by simp [execOp, Act.eval, f46, go_sem]) hl hs hS
  apply sc
  ·intro a w' vs σ hS hl hs hk
   have f47 : a.tmps[47]?.getD undef = .pointer (some ⟨p, 1, none⟩) := svf hk 3
   have hx := (hS.box (sg (hs 2 (by decide)))).cell
   exact rp v (by simp [execOp, Act.eval, f47, go_sem, hx]) hl hs hS
  apply sc
  ·intro a w' vs σ hS hl hs hk
   have f9 : a.tmps[9]?.getD undef = .pointer (some ⟨bl, 0, none⟩) := sof hk
   have hx := (hS.box (sg (hs 3 (by decide)))).cell
   exact rp (.agg #[.slice Af nf cf, .bool sf]) (by simp [execOp, Act.eval, f9, go_sem, hx]) hl hs hS
  apply sc
  ·intro a w' vs σ hS hl hs hk
   have f49 : a.tmps[49]?.getD undef = .agg #[.slice Af nf cf, .bool sf] := svf hk 5
   have h1 : σ[0]? = some .none := hs 0 (by decide)
   exact rs_run (wanted_none rfl) (exec_bsl rfl (by simp [Act.eval, f49]) (run_bsl (.slice Af nf cf) sf w')) (sp_set 0 (.box w'.heap.size 86 #[.slice Af nf cf, .bool sf]) (by kernel_rfl) (by simp) (by decide) hl hs (by rfl) (hS.alloc1.place (sg h1)) ⟨_, rfl⟩)
  apply sc
  ·intro a w' vs σ hS hl hs hk
   have e48 : a.tmps.getD 48 undef = (v : Value) := svv hk 4
   have e50 : a.tmps.getD 50 undef = vs 6 := sk_val hk 6 (by kernel_rfl) rfl rfl
   have p50 : (fun u : Value => ∃ g, u = .slice (some ⟨g, 0, none⟩) 1 1) (vs 6) := (hk.1 6 (by kernel_rfl)).1
   have h2 : σ[1]? = some (.lines v ((Ls.take i).map (fun l : Ln => (fitTo cols l.1, l.2)))) := hs 1 (by decide)
   have h0 : σ[4]? = some (.cells (.slice Af nf cf) (fitTo cols Ls[i].1)) := hs 4 (by decide)
   have h1 : σ[0]? = some (.box (blkOf (vs 6)) 86 #[.slice Af nf cf, .bool sf]) := hs 0 (by decide)
   obtain ⟨g8, hg8⟩ := p50
   rw [hg8, show blkOf (.slice (some ⟨g8, 0, none⟩) 1 1) = g8 from rfl] at h1
   obtain ⟨v9, w9, hr, hS2, A9, c9, hv9⟩ := run_appL hS (k := 1) (j := 4) (ad := ⟨g8, 0, none⟩) (c := 1) (s := sf) (sg h2) (sg h0) (by decide) (by rw [(hS.box (sg h1)).cell]; rfl) (by rw [add_at, (hS.box (sg h1)).cell]; rfl) HLL.out 64
   exact rs_run (wanted_none rfl) (exec_app rfl (by simp only [Act.eval]; exact e48) (by simp only [Act.eval]; exact e50.trans hg8) hr) (sp_set2 1 4 (.lines v9 (((Ls.take i).map (fun l : Ln => (fitTo cols l.1, l.2))) ++ [((fitTo cols Ls[i].1), sf)])) .none (by decide) (by kernel_rfl) (by simp) (by simp) (by decide) (by decide) hl hs (by rfl) (by rfl) hS2 ⟨A9, _, c9, hv9⟩)
  apply sc
  ·intro a w' vs σ hS hl hs hk
   have f44 : a.tmps[44]?.getD undef = .pointer (some ⟨p, 0, none⟩) := svf hk 0
   exact rp (pt p 0) (by simp [execOp, Act.eval, f44, go_sem]) hl hs hS
  apply sc
  ·intro a w' vs σ hS hl hs hk
   have f52 : a.tmps[52]?.getD undef = .pointer (some ⟨p, 0, none⟩) := svf hk 8
   exact rp (pt p 1) (by simp [execOp, Act.eval, f52, go_sem]) hl hs hS
  apply sc
  ·intro a w' vs σ hS hl hs hk
   have f53 : a.tmps[53]?.getD undef = .pointer (some ⟨p, 1, none⟩) := svf hk 9
   have e51 : a.tmps.getD 51 undef = vs 7 := sk_val hk 7 (by kernel_rfl) rfl rfl
   have p51 : (fun u : Value => ∃ A n c, u = .slice A n c) (vs 7) := (hk.1 7 (by kernel_rfl)).1
   have f51 := gd e51
   have h3 : σ[2]? = some (.box p 83 #[.int .i64 ↑cols, v]) := hs 2 (by decide)
   obtain ⟨hx, hf, hz⟩ := (hS.box (sg h3)).facts
   obtain ⟨A9, n9, c9, q9⟩ := p51
   exact rstep_store (w2 := w'.setCell ⟨p, 1, none⟩ (.slice A9 n9 c9)) (wanted_none rfl) rfl (by simp [execOp, Act.eval, f53, e51, f51, q9, hx, hf, hz, go_sem]) (sp_set 2 (.box p 83 #[.int .i64 ↑cols, vs 7]) (by kernel_rfl) (by simp) (by decide) hl hs (by rfl) (by rw [q9]; exact hS.setBox 2 (sg h3)) trivial) trivial
  exact SSteps.nil
 ·intro vs w' hS hv
  have q0 : vs 0 = _ := hv 0 (by decide)
  have q1 : vs 1 = _ := hv 1 (by decide)
  have q2 : vs 2 = _ := hv 2 (by decide)
  have q3 : vs 3 = _ := hv 3 (by decide)
  have q4 : vs 4 = _ := hv 4 (by decide)
  have q5 : vs 5 = _ := hv 5 (by decide)
  have q8 : vs 8 = _ := hv 8 (by decide)
  have q9 : vs 9 = _ := hv 9 (by decide)
  have S2 := Lib.hid hS
  simp only [putL, Act.put, Nat.zero_add, Nat.reduceAdd, List.setIfInBounds_toArray, List.set_cons_succ, List.set_cons_zero, q0, q1, q2, q3, q4, q5, q8, q9]
  clear hS hv q0 q1 q2 q3 q4 q5 q8 q9
  have S3 := Lib.hid ((((show Objs w _ (_ :: _ :: _ :: _ :: _ :: []) from S2.out).del 4).del 3).del 0)
  clear S2
  go_wp2_with fail
  go_roundw
  case rel => exact ⟨i + 1, vs 7, by omega, by go_num, Lib.hid (fun k hk h => by rcases Nat.lt_or_ge k i with h' | h'; (exact HALL.out k hk h'); (obtain rfl : k = i := by omega); exact HVI.out), by have h := S3.out; rw [fit_snoc hlt (by rw [← HSF.out])] at h; exact h⟩
  case measure => simp [intOf]; omega
theorem gridOf_arg (A : Option Addr) (c n : Nat) (cols : Int) (w : World) (hn : n ≤ 9223372036854775807) (h : n < 1 ∨ 1000 < n ∨ cols < 1 ∨ 1000 < cols) : Calls Tryd.prog 24 #[.int .i64 cols, .slice A n c] w fun e w' => e = .returned (.tuple #[.pointer none, .int .i64 2]) ∧ w = w' := by
 have h' : (n : Int) < 1 ∨ ((1 : Int) ≤ n ∧ (1000 : Int) < n) ∨ (((1 : Int) ≤ n ∧ (n : Int) ≤ 1000) ∧ cols < 1) ∨ (((1 : Int) ≤ n ∧ (n : Int) ≤ 1000) ∧ 1 ≤ cols ∧ 1000 < cols) := by omega
 clear h
 rcases h' with h | ⟨h, h2⟩ | ⟨⟨h, h2⟩, h3⟩ | ⟨⟨h, h2⟩, h3, h4⟩
 all_goals
  go_enter Tryd.func24, Tryd.ntmps24
  go_wp2_with fail
  go_ret2
  exact ⟨rfl, rfl⟩
end Go.Proofs.YtdndoikgnohkkaaDoor

namespace Go.Proofs.YtdndoikgnohkkaaDoor
open Go.RowKit

def rsL (c R : Nat) (O : List Ln) : List Ln := O.take R ++ List.replicate (R - O.length) (empties c, false)
def rsK (c R k : Nat) (O : List Ln) : List Ln := O.take R ++ List.replicate k (empties c, false)
def rsO (c R : Nat) (O : List Ln) : List Ln := (rsL c R O).map fun l => (fitTo c l.1, false)
def hard (k : Nat) (L : List Ln) : List Ln := (L.take k).map (fun l => (l.1, false)) ++ L.drop k
def resN (c : Nat) (N : List Ln) (s : Pr) : Pr := { s with cols := c, M := N, O := rsO c N.length s.O }
theorem rsK_length (c R k : Nat) (O : List Ln) : (rsK c R k O).length = min R O.length + k := by simp [rsK]
theorem rsK_succ (c R k : Nat) (O : List Ln) : rsK c R k O ++ [(empties c, false)] = rsK c R (k + 1) O := by simp [rsK, List.replicate_succ', List.append_assoc]
theorem rsK_all {c R k : Nat} {O : List Ln} (h : min R O.length + k = R) : rsK c R k O = rsL c R O := by
 unfold rsK rsL
 rw [show k = R - O.length by omega]
theorem rsL_length (c R : Nat) (O : List Ln) : (rsL c R O).length = R := by simp [rsL]; omega
theorem hard_length (k : Nat) (L : List Ln) : (hard k L).length = L.length := by simp [hard]; omega
theorem hard_zero (L : List Ln) : hard 0 L = L := by simp [hard]
theorem hard_all (L : List Ln) : hard L.length L = L.map fun l => (l.1, false) := by simp [hard]
theorem hard_get {k : Nat} {L : List Ln} {l : Ln} (h : L[k]? = some l) : (hard k L)[k]? = some l := by
 have hk := (List.getElem?_eq_some_iff.1 h).1
 unfold hard
 rw [List.getElem?_append_right (by simp; omega)]
 simp [Nat.min_eq_left (Nat.le_of_lt hk), h]
theorem hard_set {k : Nat} {L : List Ln} {l : Ln} (h : L[k]? = some l) : (hard k L).set k (l.1, false) = hard (k + 1) L := by
 have hk := (List.getElem?_eq_some_iff.1 h).1
 have he : L[k] = l := (List.getElem?_eq_some_iff.1 h).2
 unfold hard
 rw [List.set_append_right _ _ (by simp; omega)]
 rw [List.drop_eq_getElem_cons hk, List.take_succ_eq_append_getElem hk, he]
 simp [Nat.min_eq_left (Nat.le_of_lt hk)]
theorem rsO_of (c R : Nat) (O : List Ln) : ((rsL c R O).map (fun l : Ln => (l.1, false))).map (fun l : Ln => (fitTo c l.1, l.2)) = rsO c R O := by simp [rsO]
theorem allV_rsL {c R : Nat} {O : List Ln} (h : AllV O) : ∀ l ∈ rsL c R O, RowV l.1 := fun l hl => by
 unfold rsL at hl
 rcases List.mem_append.1 hl with hl | hl
 ·exact h l (List.mem_of_mem_take hl)
 ·rw [(List.mem_replicate.1 hl).2]
  exact allV_new 1 c (q := pen0) (by decide +kernel) (empties c, false) (by simp [empties, cEmp])
theorem rsL_small {c R : Nat} {s : Pr} {rr : Nat} (h : s.good rr) (hcm : c ≤ 1000) : ∀ l ∈ (rsL c R s.O).map (fun l : Ln => ((l.1, false) : Ln)), l.1.length ≤ 1000 ∧ lineOk l.1 = true := fun l hl => by
 obtain ⟨l', hl', rfl⟩ := List.mem_map.1 hl
 have h1 : l'.1.length ≤ 1000 := by
  unfold rsL at hl'
  rcases List.mem_append.1 hl' with hl' | hl'
  ·rw [h.O.1 l' (List.mem_of_mem_take hl')]; exact h.cm
  ·rw [(List.mem_replicate.1 hl').2]; simp [empties]; exact hcm
 exact ⟨h1, ok_of_row (allV_rsL h.O.2.2 l' hl') h1⟩
theorem resN_good {c R : Nat} {N : List Ln} {s : Pr} {rr : Nat} (h : s.good rr) (hN : K24 c R N) (hc : 0 < c) (hcm : c ≤ 1000) (hR : 0 < R) (hRm : R ≤ 1000) : (resN c N s).good R := by
 refine ⟨hc, hcm, hR, hRm, hN, fun l hl => ?_, ?_, fun l hl => ?_⟩
 ·obtain ⟨l', -, rfl⟩ := List.mem_map.1 hl
  exact fitTo_length c _
 ·show (rsO c N.length s.O).length = R
  unfold rsO
  rw [List.length_map, rsL_length]
  exact hN.2.1
 ·obtain ⟨l', hl', rfl⟩ := List.mem_map.1 hl
  exact rowOk_is.1 (fit_row c (rowOk_is.2 (allV_rsL h.O.2.2 l' hl')))
section
variable {w0 w : World} {os : List Ob} {p nx : Nat} {s : Pr}
def slN : Value → Nat
 | .slice _ n _ => n
 | _ => 0
theorem Objs.linesForm {k n c : Nat} {A : Option Addr} {L : List Ln} (hS : Objs w0 w os) (hk : os[k]? = some (.lines (.slice A n c) L)) (h0 : 0 < L.length) : ∃ g, A = some ⟨g, 0, none⟩ ∧ n = L.length ∧ L.length ≤ c ∧ c ≤ 9223372036854775807 ∧ g < w.heap.size ∧ (∀ i l, L[i]? = some l → w.cell? ⟨g, i * 2 + 1, none⟩ = some (.bool l.2)) ∧ (∀ i, w.frozen? ⟨g, i, none⟩ = false) := by
 obtain ⟨F, bs, hF, -⟩ := hS.get hk
 obtain ⟨A2, c2, e2, h1, h2, -, h4⟩ := hF.form
 simp only [Value.slice.injEq] at e2
 obtain ⟨rfl, rfl, rfl⟩ := e2
 obtain ⟨g, rfl, hz, -, hso, hfz⟩ := h4 h0
 exact ⟨g, rfl, rfl, h1, by unfold maxLen at h2; omega, hz, hso, hfz⟩
set_option maxRecDepth 100000 in
set_option maxHeartbeats 16000000 in
theorem Resize_front {rr c R : Nat} {N : List Ln} (hT : Tabs w0) (hS : Objs w0 w (pairO p s :: .grid nx 83 c N :: os)) (hg : s.good rr) (hN : K24 c R N) (hc : 0 < c) (hcm : c ≤ 1000) (hR : 0 < R) (hRm : R ≤ 1000) :
  Calls Tryd.prog 16 #[.pointer (some ⟨p, 0, none⟩), .pointer (some ⟨nx, 0, none⟩)] w fun e w' => e = .returned (.int .i64 0) ∧ Objs w0 w' (pairO p (resN c N s) :: .grid nx 83 c N :: os) := by
 obtain ⟨g, m, kv, ko, hK, hO⟩ := hS.openPair
 obtain rfl := hN.2.1
 obtain rfl := hg.O.2.1
 have HK := Lib.hid hK
 have HG := Lib.hid hg
 have HN := Lib.hid hN
 have HT := Lib.hid hT
 have S := Lib.hid hO
 have hO0 := hg.r0
 have hO1 := hg.rm
 clear hS hK hO hg hN hT
 have hn0 : ((N.length : Int) == 0) = false := beq_no (by omega)
 go_enter Tryd.func16, Tryd.ntmps16
 go_wp2_with fail
 refine (pnone_no S.out (k := 0) rfl).mono ?_
 rintro e w1 ⟨rfl, hS⟩
 have S1 := Lib.hid hS
 clear hS S
 go_wp2_with fail
 refine (Rows_any S1.out (k := 4) rfl).mono ?_
 rintro e w2 ⟨rfl, hS⟩
 have S2 := Lib.hid hS
 clear hS S1
 obtain ⟨hx, hf, hz⟩ := (S2.out.box (k := 0) rfl).facts
 go_wp2_with fail
 refine (Lines_any S2.out (k := 2) rfl HG.out.c0 (HG.out.O.1.mill HG.out.cm) (by omega)).mono ?_
 rintro e w3 ⟨v, rfl, hS⟩
 clear hx hf hz S2
 obtain ⟨A, cp, rfl, -, -⟩ := hS.linesRd (k := 0) rfl
 obtain ⟨g0, rfl, -, hcap, hcap2, -, -, -⟩ := hS.linesForm (k := 0) rfl hO0
 have S3 := Lib.hid hS
 clear hS
 go_wp2_with fail
 refine (Rows_any S3.out (k := 5) rfl).mono ?_
 rintro e w4 ⟨rfl, hS⟩
 have S4 := Lib.hid hS
 clear hS S3
 by_cases hle : N.length < s.O.length
 case' pos =>
  have hle1 : (N.length : Int) < (s.O.length : Int) := by omega
  go_wp2_with fail
  refine (Rows_any S4.out (k := 5) rfl).mono ?_
  rintro e w5 ⟨rfl, hS⟩
  have hs0 : (0 : Int) ≤ (N.length : Int) := by omega
  have hs1 : N.length ≤ cp := by omega
  have S5 := Lib.hid (hS.cutLines (k := 0) rfl (Nat.le_of_lt hle))
  clear hS S4
  go_wp2_with fail
 case' neg =>
  have hle1 : ¬ (N.length : Int) < (s.O.length : Int) := by omega
  have S5 := Lib.hid (show Objs w0 _ (.lines (.slice (some ⟨g0, 0, none⟩) s.O.length cp) (s.O.take N.length) :: _) by rw [List.take_of_length_le (show s.O.length ≤ N.length by omega)]; exact S4.out)
  clear S4
  go_wp2_with fail
 all_goals
  go_loopw [5] (fun v wr => ∃ k : Nat, min N.length s.O.length + k ≤ N.length ∧ Objs w0 wr (.lines v (rsK c N.length k s.O) :: .box p 44 #[.pointer (some ⟨g, 0, none⟩), .pointer (some ⟨m, 0, none⟩), .int .i64 (used24 s.mode), .int .i64 s.mode, kv] :: .grid g 83 s.cols s.M :: .grid m 83 s.cols s.O :: ko :: .grid nx 83 c N :: os)) (fun v _ => N.length - slN v)
  case atStart => exact ⟨0, by omega, by have h := S5.out; unfold rsK; rw [List.replicate_zero, List.append_nil]; exact h⟩
  case round =>
   clear S5
   obtain ⟨k, hk, hS⟩ := hrel
   obtain ⟨A5, c5, rfl, -, -⟩ := hS.linesRd (k := 0) rfl
   have S6 := Lib.hid hS
   have HLEN := Lib.hid (rsK_length c N.length k s.O)
   clear hS
   by_cases hlt : min N.length s.O.length + k < N.length
   case pos =>
    have hl1 : ((rsK c N.length k s.O).length : Int) < (N.length : Int) := by rw [HLEN.out]; omega
    have hl2 : (rsK c N.length k s.O).length ≤ 1000 := by rw [HLEN.out]; omega
    have HLT := Lib.hid hlt
    have HK2 := Lib.hid hk
    clear hlt hk
    go_wp2_with fail
    refine (Rows_any S6.out (k := 5) rfl).mono ?_
    rintro e w6 ⟨rfl, hS⟩
    have S7 := Lib.hid hS
    clear hS S6
    go_wp2_with fail
    refine (Cols_any S7.out (k := 5) rfl).mono ?_
    rintro e w7 ⟨rfl, hS⟩
    have S8 := Lib.hid hS
    clear hS S7
    go_wp2_with fail
    refine (lineNew_yes c hcm _).mono ?_
    rintro e w8 ⟨v2, rfl, ho, hb⟩
    obtain ⟨A2, c2, rfl, -⟩ := ho.form
    have S9 := Lib.hid (S8.out.newCells hb ho)
    clear hb ho S8
    go_upto_region 8 with (fail)
    refine at_objsC (S9.out.alloc1 (c1 := #[.slice A2 (empties c).length c2, .bool false]) (t1 := 86)) (fun W hW => ?_)
    generalize w8.heap.size = b6 at hW ⊢
    have S10 := Lib.hid hW
    clear hW S9
    obtain ⟨hx6, hf6, hz6⟩ := (S10.out.box (k := 0) rfl).facts
    have hS3 := S10.out.alloc1 (c1 := #[.slice A2 (empties c).length c2, .bool false]) (t1 := 86)
    obtain ⟨v9, w9, hr9, hS9, A9, c9, hv9⟩ := run_appL hS3 (k := 3) (j := 2) (ad := ⟨W.heap.size, 0, none⟩) (c := 1) (s := false) rfl rfl (by decide) (by rw [(hS3.box (k := 0) rfl).cell]; rfl) (by rw [add_at, (hS3.box (k := 0) rfl).cell]; rfl) (by omega) 64
    rw [rsK_succ] at hS9
    have S11 := Lib.hid (show Objs w0 w9 (.lines v9 (rsK c N.length (k + 1) s.O) :: .box p 44 #[.pointer (some ⟨g, 0, none⟩), .pointer (some ⟨m, 0, none⟩), .int .i64 (used24 s.mode), .int .i64 s.mode, kv] :: .grid g 83 s.cols s.M :: .grid m 83 s.cols s.O :: ko :: .grid nx 83 c N :: os) from ((hS9.del 0).del 0).del 0)
    have HV := Lib.hid hv9
    clear hS3 hS9 hv9
    go_wp2_with (first | (refine wpList_bsl (wanted_none rfl) _ rfl (v := .slice A2 (empties c).length c2) (s := false) rfl ?_) | (at_builtin; refine wpList_app _ _ (wanted_none rfl) rfl rfl rfl hr9 ?_))
    go_roundw
    case rel => exact ⟨k + 1, by have := HLT.out; omega, S11.out⟩
    case measure => rw [HV.out]; show N.length - ((rsK c N.length k s.O).length + 1) < N.length - (rsK c N.length k s.O).length; rw [HLEN.out]; have := HLT.out; omega
   case neg =>
    have hl1 : ¬ ((rsK c N.length k s.O).length : Int) < (N.length : Int) := by rw [HLEN.out]; omega
    have HKR := Lib.hid (rsK_all (c := c) (show min N.length s.O.length + k = N.length by omega))
    have HLN := Lib.hid (show (rsK c N.length k s.O).length = N.length by rw [HLEN.out]; omega)
    clear hlt hk
    go_wp2_with fail
    refine (Rows_any S6.out (k := 5) rfl).mono ?_
    rintro e w6 ⟨rfl, hS⟩
    have S7 := Lib.hid hS
    clear hS S6
    go_wp2_with fail
    go_loopw [53] (fun x wr => ∃ n : Nat, n ≤ N.length ∧ x = .int .i64 n ∧ Objs w0 wr (.lines (.slice A5 (rsK c N.length k s.O).length c5) (hard n (rsL c N.length s.O)) :: .box p 44 #[.pointer (some ⟨g, 0, none⟩), .pointer (some ⟨m, 0, none⟩), .int .i64 (used24 s.mode), .int .i64 s.mode, kv] :: .grid g 83 s.cols s.M :: .grid m 83 s.cols s.O :: ko :: .grid nx 83 c N :: os)) (fun x _ => N.length - (intOf x).toNat)
    case atStart => exact ⟨0, Nat.zero_le _, rfl, by have h := S7.out; rw [hard_zero, ← HKR.out]; exact h⟩
    case round =>
     clear S7
     obtain ⟨n, hn, rfl, hS⟩ := hrel
     by_cases hnl : n < N.length
     ·obtain ⟨l, hl⟩ := get_of (show n < (rsL c N.length s.O).length by rw [rsL_length]; exact hnl)
      have HL := Lib.hid hl
      have hnn : (n : Int) < ((rsK c N.length k s.O).length : Int) := by rw [HLN.out]; omega
      have hn00 : (0 : Int) ≤ (n : Int) := by omega
      obtain ⟨g5, rfl, -, -, -, hz5, hso5, hf5⟩ := hS.linesForm (k := 0) rfl (by rw [hard_length, rsL_length]; exact hR)
      have hso := hso5 n l (hard_get hl)
      have S8 := Lib.hid (by have h := hS.storeSoft (k := 0) (s := false) rfl (hard_get hl); rw [hard_set hl] at h; exact h)
      clear hS hso5 hl
      go_wp2_with fail
      go_roundw
      case rel => exact ⟨n + 1, by omega, by go_num, S8.out⟩
      case measure => simp [intOf]; omega
     ·have hnn : ¬ (n : Int) < ((rsK c N.length k s.O).length : Int) := by rw [HLN.out]; omega
      have HE := Lib.hid (show n = (rsL c N.length s.O).length by rw [rsL_length]; omega)
      have S8 := Lib.hid (by have h := hS; rw [HE.out, hard_all] at h; exact h)
      clear hS
      go_wp2_with fail
      refine (Cols_any S8.out (k := 5) rfl).mono ?_
      rintro e w7 ⟨rfl, hS⟩
      have hrd := (hS.linesRd' (k := 0) rfl).2.2
      have S9 := Lib.hid hS
      clear hS S8
      go_wp2_with fail
      have hcon := gridOf_yes A5 c5 ((rsL c N.length s.O).map fun l => (l.1, false)) c w7 (S9.out.tabs HT.out) hrd hc hcm (by rw [List.length_map, rsL_length]; exact hR) (by rw [List.length_map, rsL_length]; exact hRm) (fun l hl => by have := (rsL_small HG.out hcm l hl).1; omega) (fun l hl => (rsL_small HG.out hcm l hl).2)
      rw [rsO_of, List.length_map, rsL_length, ← HLN.out] at hcon
      refine (show Calls _ _ _ _ _ from hcon).mono ?_
      rintro e w8 ⟨p2, rfl, hG2⟩
      rw [HLN.out] at hG2
      have S10 := Lib.hid (S9.out.nest hG2)
      clear hG2 hcon hrd S9
      go_wp2_with fail
      refine (CopyG S10.out (k := 6) rfl hc hcm HN.out.1 (by omega)).mono ?_
      rintro e w9 ⟨cp2, rfl, hS⟩
      have S11 := Lib.hid hS
      clear hS S10
      obtain ⟨hx, hf, hz⟩ := (S11.out.box (k := 3) rfl).facts
      have hW := (S11.out.setBox 3 (i := 0) (u := .pointer (some ⟨cp2, 0, none⟩)) rfl).setBox 3 (i := 1) (u := .pointer (some ⟨p2, 0, none⟩)) rfl
      have S12 := Lib.hid (show Objs w0 _ (.box p 44 #[.pointer (some ⟨cp2, 0, none⟩), .pointer (some ⟨p2, 0, none⟩), .int .i64 (used24 s.mode), .int .i64 s.mode, kv] :: .grid cp2 83 c N :: .grid p2 83 c (rsO c N.length s.O) :: ko :: .grid nx 83 c N :: os) from (Objs.pick (σ := [_, _, _, _, _, _, _, _]) (os := os) hW [some 3, some 0, some 1, some 6, some 7] (by decide) rfl))
      clear hW S11
      go_wp2_with fail
      go_ret
      exact ⟨rfl, Objs.closePair (s := resN c N s) (g := cp2) (m := p2) (kv := kv) (ko := ko) S12.out HK.out⟩
end
end Go.Proofs.YtdndoikgnohkkaaDoor

namespace Go.Proofs.YtdndoikgnohkkaaDoor
open Go.RowKit

section
variable {w0 w : World} {os : List Ob} {p x : Nat} {s : Pr}
theorem Objs.openUsed (h : Objs w0 w (refO x s :: os)) : ∃ (m o u : Nat) (y : Ob), (if s.mode = 0 then m else o) = u ∧ Objs w0 w (.box x 103 (rpv m o s.mode (s.kept.getD saved0) s.kept.isSome) :: .grid u 106 s.cols s.U :: y :: os) ∧ ∀ (w' : World) (L2 : List Ln) (os' : List Ob), Objs w0 w' (.box x 103 (rpv m o s.mode (s.kept.getD saved0) s.kept.isSome) :: .grid u 106 s.cols L2 :: y :: os') → Objs w0 w' (refO x (s.setU L2) :: os') := by
 obtain ⟨m, o, hO⟩ := h.openRef
 by_cases hm : s.mode = 0
 ·refine ⟨m, o, m, .grid o 106 s.cols s.O, by rw [if_pos hm], by rw [show s.U = s.M from if_pos hm]; exact hO, fun w' L2 os' h' => ?_⟩
  rw [show s.setU L2 = { s with M := L2 } from if_pos hm]
  exact Objs.closeRef (s := { s with M := L2 }) h'
 ·refine ⟨m, o, o, .grid m 106 s.cols s.M, by rw [if_neg hm], by rw [show s.U = s.O from if_neg hm]; exact (Objs.pick (σ := [_, _, _]) (os := os) hO [some 0, some 2, some 1] (by decide) rfl), fun w' L2 os' h' => ?_⟩
  rw [show s.setU L2 = { s with O := L2 } from if_neg hm]
  exact Objs.closeRef (s := { s with O := L2 }) (Objs.pick (σ := [_, _, _]) (os := os') h' [some 0, some 2, some 1] (by decide) rfl)
theorem used_is {m o u : Nat} {md : Int} {sx : Saved} {kx : Bool} {k : Nat} (hu : (if md = 0 then m else o) = u) (hS : Objs w0 w os) (hk : os[k]? = some (.box p 103 (rpv m o md sx kx))) : Calls Tryd.prog 51 #[.pointer (some ⟨p, 0, none⟩)] w fun e w' => e = .returned (.pointer (some ⟨u, 0, none⟩)) ∧ Objs w0 w' os := by
 have := used_any hS hk
 rw [hu] at this
 exact this
theorem putE_out {row col : Int} {c : Cell} {cols R : Nat} (h : ¬ (here14 row R = true ∧ 0 ≤ col ∧ col < cols)) : putE row col c cols R = 3 := if_pos h
theorem putE_bad {row col : Int} {c : Cell} {cols R : Nat} (h : here14 row R = true ∧ 0 ≤ col ∧ col < cols) (h2 : ¬ (c.ok = true ∧ ¬ c.width = 0 ∧ col + c.width ≤ cols)) : putE row col c cols R = 2 := by
 unfold putE; rw [if_neg (fun g => g h), if_pos h2]
theorem putE_fit {row col : Int} {c : Cell} {cols R : Nat} (h : here14 row R = true ∧ 0 ≤ col ∧ col < cols) (h2 : c.ok = true ∧ ¬ c.width = 0 ∧ col + c.width ≤ cols) : putE row col c cols R = 0 := by
 unfold putE; rw [if_neg (fun g => g h), if_neg (fun g => g h2)]
theorem putR24_no {row col : Int} {c : Cell} {cols : Nat} {L : List Ln} (h : ¬ putE row col c cols L.length = 0) : putR24 row col c cols L = L := if_neg h
set_option maxRecDepth 100000 in
set_option maxHeartbeats 32000000 in
theorem does24_put {rr : Nat} (a1 : Act24) (hw : a1.what = 0) (hT : Tabs w0) (hS : Objs w0 w (pairO p s :: refO x s :: os)) (hg : s.good rr) :
  Calls Tryd.prog 32 #[.pointer (some ⟨p, 0, none⟩), .pointer (some ⟨x, 0, none⟩), .agg (av24 a1)] w fun e w' => e = .returned (.bool true) ∧ Objs w0 w' (pairO p (s.setU (putR24 a1.row a1.col a1.x s.cols s.U)) :: refO x (s.setU (putR24 a1.row a1.col a1.x s.cols s.U)) :: os) := by
 have S := Lib.hid hS
 have HT := Lib.hid hT
 have HG := Lib.hid hg
 clear hS hT hg
 have b0 := beq_yes hw
 clear hw
 go_enter Tryd.func32, Tryd.ntmps32
 go_upto_region 1 with (fail)
 refine at_objsC (S.out.alloc1 (c1 := av24 a1) (t1 := 66)) (fun W hW => ?_)
 generalize w.heap.size = b5 at hW ⊢
 obtain ⟨m, o, ug, y, hu, hW2, hclose⟩ := Objs.openUsed (Objs.pick (σ := [_, _, _]) (os := os) hW [some 2, some 0, some 1] (by decide) rfl)
 have HU := Lib.hid hu
 have HCL := Lib.hid hclose
 have S1 := Lib.hid (show Objs w0 W (.box b5 66 (av24 a1) :: .box x 103 (rpv m o s.mode (s.kept.getD saved0) s.kept.isSome) :: .grid ug 106 s.cols s.U :: y :: pairO p s :: os) from Objs.pick (σ := [_, _, _, _, _]) (os := os) hW2 [some 3, some 0, some 1, some 2, some 4] (by decide) rfl)
 clear hW hW2 S hu hclose
 obtain ⟨hx5, hf5, hz5, hr5, hp5, hs5, hq5⟩ := (S1.out.box (k := 0) rfl).act24
 go_wp2_with fail
 refine (used_is HU.out S1.out (k := 1) rfl).mono ?_
 rintro e w1 ⟨rfl, hS⟩
 clear hx5 hf5 hz5 hr5 hp5 hs5 hq5
 have S2 := Lib.hid hS
 clear hS S1
 obtain ⟨hx5, hf5, hz5, hr5, hp5, hs5, hq5⟩ := (S2.out.box (k := 0) rfl).act24
 go_upto_region 5 with (fail)
 refine at_objsC (S2.out.alloc1 (c1 := pw a1.row a1.col a1.x) (t1 := 63)) (fun W hW => ?_)
 generalize w1.heap.size = b8 at hW ⊢
 have S3 := Lib.hid hW
 clear hW S2 hx5 hf5 hz5 hr5 hp5 hs5 hq5
 go_upto_block 1 with (fail)
 go_cut [9] (fun s9 wx => s9 = .int .i64 (putE a1.row a1.col a1.x s.cols s.U.length) ∧ Objs w0 wx (.box b8 63 (pw a1.row a1.col a1.x) :: .box b5 66 (av24 a1) :: .box x 103 (rpv m o s.mode (s.kept.getD saved0) s.kept.isSome) :: .grid ug 106 s.cols (putR24 a1.row a1.col a1.x s.cols s.U) :: y :: pairO p s :: os))
 case first =>
  have hcas : a1.row < 0 ∨ (0 ≤ a1.row ∧ (s.U.length : Int) ≤ a1.row) ∨ ((0 ≤ a1.row ∧ a1.row < (s.U.length : Int)) ∧ a1.col < 0) ∨ ((0 ≤ a1.row ∧ a1.row < (s.U.length : Int)) ∧ 0 ≤ a1.col ∧ (s.cols : Int) ≤ a1.col) ∨ ((0 ≤ a1.row ∧ a1.row < (s.U.length : Int)) ∧ 0 ≤ a1.col ∧ a1.col < (s.cols : Int)) := by omega
  rcases hcas with h | ⟨h0, h⟩ | ⟨⟨h0, h1⟩, h⟩ | ⟨⟨h0, h1⟩, h2, h⟩ | ⟨⟨h0, h1⟩, h2, h3⟩
  ·as_aux_lemma =>
    have d1 : decide (a1.row < 0) = true := decide_eq_true h
    have HE := Lib.hid (show putE a1.row a1.col a1.x s.cols s.U.length = 3 from putE_out (fun g => by have g1 := of_decide_eq_true (show decide (0 ≤ a1.row ∧ a1.row < (s.U.length : Int)) = true from g.1); omega))
    have HN := Lib.hid (show putR24 a1.row a1.col a1.x s.cols s.U = s.U from putR24_no (by rw [HE.out]; decide))
    obtain ⟨hx5, hf5, hz5, hr5, hp5, hs5, hq5⟩ := (S3.out.box (k := 1) rfl).act24
    obtain ⟨hx8, hf8, hz8, hr8, hc8⟩ := (S3.out.box (k := 0) rfl).put24
    obtain ⟨Ax, cx, hBx, -, -⟩ := S3.out.gridRd (k := 3) rfl
    obtain ⟨hxx, hfx, hzx⟩ := hBx.facts
    clear hBx
    go_upto_region 7 with (fail)
    refine wp_region_below (by kernel_rfl) (by kernel_rfl) ?_
    repeat (go_big_quiet_step (fail))
    refine wpQuiet_nil ?_
    intro w2 hb2
    have S4 := Lib.hid (S3.out.bel hb2)
    clear hb2 S3
    clear hx5 hf5 hz5 hr5 hp5 hs5 hq5 hx8 hf8 hz8 hr8 hc8 hxx hfx hzx
    go_wp2_with fail
    go_meet
    case rel => exact ⟨by rw [HE.out], by rw [HN.out]; exact S4.out⟩
  ·as_aux_lemma =>
    have d1 : decide (a1.row < 0) = false := decide_eq_false (by omega)
    have d2 : decide ((s.U.length : Int) ≤ a1.row) = true := decide_eq_true (by omega)
    have HE := Lib.hid (show putE a1.row a1.col a1.x s.cols s.U.length = 3 from putE_out (fun g => by have g1 := of_decide_eq_true (show decide (0 ≤ a1.row ∧ a1.row < (s.U.length : Int)) = true from g.1); omega))
    have HN := Lib.hid (show putR24 a1.row a1.col a1.x s.cols s.U = s.U from putR24_no (by rw [HE.out]; decide))
    obtain ⟨hx5, hf5, hz5, hr5, hp5, hs5, hq5⟩ := (S3.out.box (k := 1) rfl).act24
    obtain ⟨hx8, hf8, hz8, hr8, hc8⟩ := (S3.out.box (k := 0) rfl).put24
    obtain ⟨Ax, cx, hBx, -, -⟩ := S3.out.gridRd (k := 3) rfl
    obtain ⟨hxx, hfx, hzx⟩ := hBx.facts
    clear hBx
    go_upto_region 7 with (fail)
    refine wp_region_below (by kernel_rfl) (by kernel_rfl) ?_
    repeat (go_big_quiet_step (fail))
    refine wpQuiet_nil ?_
    intro w2 hb2
    have S4 := Lib.hid (S3.out.bel hb2)
    clear hb2 S3
    clear hx5 hf5 hz5 hr5 hp5 hs5 hq5 hx8 hf8 hz8 hr8 hc8 hxx hfx hzx
    go_wp2_with fail
    go_meet
    case rel => exact ⟨by rw [HE.out], by rw [HN.out]; exact S4.out⟩
  ·as_aux_lemma =>
    have d1 : decide (a1.row < 0) = false := decide_eq_false (by omega)
    have d2 : decide ((s.U.length : Int) ≤ a1.row) = false := decide_eq_false (by omega)
    have d3 : decide (a1.col < 0) = true := decide_eq_true (by omega)
    have HE := Lib.hid (show putE a1.row a1.col a1.x s.cols s.U.length = 3 from putE_out (fun g => by have g1 := of_decide_eq_true (show decide (0 ≤ a1.row ∧ a1.row < (s.U.length : Int)) = true from g.1); omega))
    have HN := Lib.hid (show putR24 a1.row a1.col a1.x s.cols s.U = s.U from putR24_no (by rw [HE.out]; decide))
    obtain ⟨hx5, hf5, hz5, hr5, hp5, hs5, hq5⟩ := (S3.out.box (k := 1) rfl).act24
    obtain ⟨hx8, hf8, hz8, hr8, hc8⟩ := (S3.out.box (k := 0) rfl).put24
    obtain ⟨Ax, cx, hBx, -, -⟩ := S3.out.gridRd (k := 3) rfl
    obtain ⟨hxx, hfx, hzx⟩ := hBx.facts
    clear hBx
    go_upto_region 7 with (fail)
    refine wp_region_below (by kernel_rfl) (by kernel_rfl) ?_
    repeat (go_big_quiet_step (fail))
    refine wpQuiet_nil ?_
    intro w2 hb2
    have S4 := Lib.hid (S3.out.bel hb2)
    clear hb2 S3
    clear hx5 hf5 hz5 hr5 hp5 hs5 hq5 hx8 hf8 hz8 hr8 hc8 hxx hfx hzx
    go_wp2_with fail
    go_meet
    case rel => exact ⟨by rw [HE.out], by rw [HN.out]; exact S4.out⟩
  ·as_aux_lemma =>
    have d1 : decide (a1.row < 0) = false := decide_eq_false (by omega)
    have d2 : decide ((s.U.length : Int) ≤ a1.row) = false := decide_eq_false (by omega)
    have d3 : decide (a1.col < 0) = false := decide_eq_false (by omega)
    have d4 : decide ((s.cols : Int) ≤ a1.col) = true := decide_eq_true (by omega)
    have HE := Lib.hid (show putE a1.row a1.col a1.x s.cols s.U.length = 3 from putE_out (fun g => by have g1 := of_decide_eq_true (show decide (0 ≤ a1.row ∧ a1.row < (s.U.length : Int)) = true from g.1); omega))
    have HN := Lib.hid (show putR24 a1.row a1.col a1.x s.cols s.U = s.U from putR24_no (by rw [HE.out]; decide))
    obtain ⟨hx5, hf5, hz5, hr5, hp5, hs5, hq5⟩ := (S3.out.box (k := 1) rfl).act24
    obtain ⟨hx8, hf8, hz8, hr8, hc8⟩ := (S3.out.box (k := 0) rfl).put24
    obtain ⟨Ax, cx, hBx, -, -⟩ := S3.out.gridRd (k := 3) rfl
    obtain ⟨hxx, hfx, hzx⟩ := hBx.facts
    clear hBx
    go_upto_region 7 with (fail)
    refine wp_region_below (by kernel_rfl) (by kernel_rfl) ?_
    repeat (go_big_quiet_step (fail))
    refine wpQuiet_nil ?_
    intro w2 hb2
    have S4 := Lib.hid (S3.out.bel hb2)
    clear hb2 S3
    clear hx5 hf5 hz5 hr5 hp5 hs5 hq5 hx8 hf8 hz8 hr8 hc8 hxx hfx hzx
    go_wp2_with fail
    go_meet
    case rel => exact ⟨by rw [HE.out], by rw [HN.out]; exact S4.out⟩
  ·as_aux_lemma =>
    have d1 : decide (a1.row < 0) = false := decide_eq_false (by omega)
    have d2 : decide ((s.U.length : Int) ≤ a1.row) = false := decide_eq_false (by omega)
    have d3 : decide (a1.col < 0) = false := decide_eq_false (by omega)
    have d4 : decide ((s.cols : Int) ≤ a1.col) = false := decide_eq_false (by omega)
    have HIN := Lib.hid (show here14 a1.row s.U.length = true ∧ 0 ≤ a1.col ∧ a1.col < s.cols from ⟨decide_eq_true ⟨h0, h1⟩, h2, h3⟩)
    obtain ⟨hx5, hf5, hz5, hr5, hp5, hs5, hq5⟩ := (S3.out.box (k := 1) rfl).act24
    obtain ⟨hx8, hf8, hz8, hr8, hc8⟩ := (S3.out.box (k := 0) rfl).put24
    obtain ⟨Ax, cx, hBx, -, -⟩ := S3.out.gridRd (k := 3) rfl
    obtain ⟨hxx, hfx, hzx⟩ := hBx.facts
    clear hBx
    go_upto_region 7 with (fail)
    refine wp_region_below (by kernel_rfl) (by kernel_rfl) ?_
    repeat (go_big_quiet_step (fail))
    refine wpQuiet_nil ?_
    intro w2 hb2
    have S4 := Lib.hid (S3.out.bel hb2)
    clear hb2 S3
    clear hx5 hf5 hz5 hr5 hp5 hs5 hq5 hx8 hf8 hz8 hr8 hc8 hxx hfx hzx
    clear d1 d2 d3 d4
    cases hv : a1.x.ok with
    | false =>
     have HVY := Lib.hid hv
     clear hv
     go_upto_region 9 with (fail)
     refine at_objsC S4.out (fun W9 hW => ?_)
     have HTW := Lib.hid (hW.tabs HT.out)
     have S4b := Lib.hid hW
     clear hW S4
     have S4 := S4b
     clear S4b
     obtain ⟨hx8, hf8, hz8, hr8, hc8⟩ := (S4.out.box (k := 0) rfl).put24
     obtain ⟨Ax, cx, hBx, -, -⟩ := S4.out.gridRd (k := 3) rfl
     obtain ⟨hxx, hfx, hzx⟩ := hBx.facts
     clear hBx
     refine wp_region_stage (w0 := W9) (os := []) (by kernel_rfl) (by kernel_rfl) (by kernel_rfl) [] [[], [], [], [], [], [], [], [], [], [], [], [], [], [], [], [], [], [], [], [], [], [], [], []] [] (fun opn u => match opn with | 0 => u = .pointer (some ⟨b8, 2, none⟩) | 1 => u = .agg (cv a1.x) | 2 => u = .bool false | 3 => u = .bool true | 4 => u = .bool true | 5 => u = (undef : Value) | 6 => u = (undef : Value) | 7 => u = (undef : Value) | 8 => u = (undef : Value) | 9 => u = .bool true | 10 => u = .bool true | 11 => u = (undef : Value) | 12 => u = (undef : Value) | 13 => u = (undef : Value) | 14 => u = (undef : Value) | 15 => u = (undef : Value) | 16 => u = (undef : Value) | 17 => u = (undef : Value) | 18 => u = (undef : Value) | 19 => u = (undef : Value) | 20 => u = (undef : Value) | 21 => u = (undef : Value) | 22 => u = .bool true | 23 => u = .bool true | _ => True) (fun vs => []) (by kernel_rfl) (fun vs => by rfl) (objs_start W9) ?_ ?_
     ·apply sc
      ·intro a w' vs σ hS hl hs hk
       have f8 : a.tmps[8]?.getD undef = .pointer (some ⟨b8, 0, none⟩) := sof hk
       exact rp (pt b8 2) (by simp [execOp, Act.eval, f8, go_sem]) hl hs hS
      apply sc
      ·intro a w' vs σ hS hl hs hk
       have f65 : a.tmps[65]?.getD undef = .pointer (some ⟨b8, 2, none⟩) := svf hk 0
       have hxx0 := (cellAt_below hS.base hz8 2).trans hc8
       exact rp (.agg (cv a1.x)) (by simp [execOp, Act.eval, f65, go_sem, hxx0]) hl hs hS
      apply sc
      ·intro a w' vs σ hS hl hs hk
       have e66 : a.tmps.getD 66 undef = .agg (cv a1.x) := svv hk 1
       exact ro_call (f := 53) (wanted_none rfl) rfl (by simp only [List.map_toArray, List.map_cons, List.map_nil, Act.eval, e66] <;> rfl) (fun _ _ => by kernel_rfl) ((valid_no HVY.out w' (HTW.out.bel hS.base)).mono fun e w2 ⟨h1, h2⟩ => ⟨_, h1, sp_same (by kernel_rfl) hl hs (hS.bel h2) rfl, trivial⟩)
      apply sc
      ·intro a w' vs σ hS hl hs hk
       have f67 : a.tmps[67]?.getD undef = .bool false := svf hk 2
       exact rp (.bool true) (by simp [execOp, Act.eval, f67, go_sem]) hl hs hS
      apply sc
      ·intro a w' vs σ hS hl hs hk
       have f68 : a.tmps[68]?.getD undef = .bool true := svf hk 3
       exact rp (.bool true) (by simp [execOp, Act.eval, f68, go_sem]) hl hs hS
      apply sc
      ·intro a w' vs σ hS hl hs hk
       exact rs_skip (wanted_no rfl rfl rfl (svv hk 4) (by decide)) (sp_same (by kernel_rfl) hl hs hS rfl)
      apply sc
      ·intro a w' vs σ hS hl hs hk
       exact rs_skip (wanted_no rfl rfl rfl (svv hk 4) (by decide)) (sp_same (by kernel_rfl) hl hs hS rfl)
      apply sc
      ·intro a w' vs σ hS hl hs hk
       exact rs_skip (wanted_no rfl rfl rfl (svv hk 4) (by decide)) (sp_same (by kernel_rfl) hl hs hS rfl)
      apply sc
      ·intro a w' vs σ hS hl hs hk
       exact rs_skip (wanted_no rfl rfl rfl (svv hk 4) (by decide)) (sp_same (by kernel_rfl) hl hs hS rfl)
      apply sc
      ·intro a w' vs σ hS hl hs hk
       have f69 : a.tmps[69]?.getD undef = .bool true := svf hk 4
       have f73 : a.tmps[73]?.getD undef = (undef : Value) := svf hk 8
       exact rp (.bool true) (by simp [execOp, Act.eval, f69, f73, go_sem]) hl hs hS
      apply sc
      ·intro a w' vs σ hS hl hs hk
       have f74 : a.tmps[74]?.getD undef = .bool true := svf hk 9
       exact rp (.bool true) (by simp [execOp, Act.eval, f74, go_sem]) hl hs hS
      apply sc
      ·intro a w' vs σ hS hl hs hk
       exact rs_skip (wanted_no rfl rfl rfl (svv hk 10) (by decide)) (sp_same (by kernel_rfl) hl hs hS rfl)
      apply sc
      ·intro a w' vs σ hS hl hs hk
       exact rs_skip (wanted_no rfl rfl rfl (svv hk 10) (by decide)) (sp_same (by kernel_rfl) hl hs hS rfl)
      apply sc
      ·intro a w' vs σ hS hl hs hk
       exact rs_skip (wanted_no rfl rfl rfl (svv hk 10) (by decide)) (sp_same (by kernel_rfl) hl hs hS rfl)
      apply sc
      ·intro a w' vs σ hS hl hs hk
       exact rs_skip (wanted_no rfl rfl rfl (svv hk 10) (by decide)) (sp_same (by kernel_rfl) hl hs hS rfl)
      apply sc
      ·intro a w' vs σ hS hl hs hk
       exact rs_skip (wanted_no rfl rfl rfl (svv hk 10) (by decide)) (sp_same (by kernel_rfl) hl hs hS rfl)
      apply sc
      ·intro a w' vs σ hS hl hs hk
       exact rs_skip (wanted_no rfl rfl rfl (svv hk 10) (by decide)) (sp_same (by kernel_rfl) hl hs hS rfl)
      apply sc
      ·intro a w' vs σ hS hl hs hk
       exact rs_skip (wanted_no rfl rfl rfl (svv hk 10) (by decide)) (sp_same (by kernel_rfl) hl hs hS rfl)
      apply sc
      ·intro a w' vs σ hS hl hs hk
       exact rs_skip (wanted_no rfl rfl rfl (svv hk 10) (by decide)) (sp_same (by kernel_rfl) hl hs hS rfl)
      apply sc
      ·intro a w' vs σ hS hl hs hk
       exact rs_skip (wanted_no rfl rfl rfl (svv hk 10) (by decide)) (sp_same (by kernel_rfl) hl hs hS rfl)
      apply sc
      ·intro a w' vs σ hS hl hs hk
       exact rs_skip (wanted_no rfl rfl rfl (svv hk 10) (by decide)) (sp_same (by kernel_rfl) hl hs hS rfl)
      apply sc
      ·intro a w' vs σ hS hl hs hk
       exact rs_skip (wanted_no rfl rfl rfl (svv hk 10) (by decide)) (sp_same (by kernel_rfl) hl hs hS rfl)
      apply sc
      ·intro a w' vs σ hS hl hs hk
       have f75 : a.tmps[75]?.getD undef = .bool true := svf hk 10
       have f86 : a.tmps[86]?.getD undef = (undef : Value) := svf hk 21
       exact rp (.bool true) (by simp [execOp, Act.eval, f75, f86, go_sem]) hl hs hS
      apply sc
      ·intro a w' vs σ hS hl hs hk
       have f87 : a.tmps[87]?.getD undef = .bool true := svf hk 22
       exact rp (.bool true) (by simp [execOp, Act.eval, f87, go_sem]) hl hs hS
      exact SSteps.nil
     ·intro vs w' hS hv
      have q0 : vs 0 = _ := hv 0 (by decide)
      have q1 : vs 1 = _ := hv 1 (by decide)
      have q2 : vs 2 = _ := hv 2 (by decide)
      have q3 : vs 3 = _ := hv 3 (by decide)
      have q4 : vs 4 = _ := hv 4 (by decide)
      have q5 : vs 5 = _ := hv 5 (by decide)
      have q6 : vs 6 = _ := hv 6 (by decide)
      have q7 : vs 7 = _ := hv 7 (by decide)
      have q8 : vs 8 = _ := hv 8 (by decide)
      have q9 : vs 9 = _ := hv 9 (by decide)
      have q10 : vs 10 = _ := hv 10 (by decide)
      have q11 : vs 11 = _ := hv 11 (by decide)
      have q12 : vs 12 = _ := hv 12 (by decide)
      have q13 : vs 13 = _ := hv 13 (by decide)
      have q14 : vs 14 = _ := hv 14 (by decide)
      have q15 : vs 15 = _ := hv 15 (by decide)
      have q16 : vs 16 = _ := hv 16 (by decide)
      have q17 : vs 17 = _ := hv 17 (by decide)
      have q18 : vs 18 = _ := hv 18 (by decide)
      have q19 : vs 19 = _ := hv 19 (by decide)
      have q20 : vs 20 = _ := hv 20 (by decide)
      have q21 : vs 21 = _ := hv 21 (by decide)
      have q22 : vs 22 = _ := hv 22 (by decide)
      have q23 : vs 23 = _ := hv 23 (by decide)
      have S2 := Lib.hid hS
      simp only [putL, Act.put, Nat.zero_add, Nat.reduceAdd, List.setIfInBounds_toArray, List.set_cons_succ, List.set_cons_zero, q0, q1, q2, q3, q4, q5, q6, q7, q8, q9, q10, q11, q12, q13, q14, q15, q16, q17, q18, q19, q20, q21, q22, q23]
      clear hS hv q0 q1 q2 q3 q4 q5 q6 q7 q8 q9 q10 q11 q12 q13 q14 q15 q16 q17 q18 q19 q20 q21 q22 q23
      have S5 := Lib.hid (S4.out.bel S2.out.base)
      clear S2 S4 HTW hx8 hf8 hz8 hr8 hc8 hxx hfx hzx
      have HE := Lib.hid (show putE a1.row a1.col a1.x s.cols s.U.length = 2 from putE_bad HIN.out (fun h => by rw [HVY.out] at h; cases h.1))
      have HN := Lib.hid (show putR24 a1.row a1.col a1.x s.cols s.U = s.U from putR24_no (by rw [HE.out]; decide))
      go_wp2_with fail
      go_meet
      case rel => exact ⟨by rw [HE.out], by rw [HN.out]; exact S5.out⟩
    | true =>
     have HVY := Lib.hid hv
     by_cases hz : a1.x.width = 0
     case pos =>
      have HZ := Lib.hid hz
      have HW0 := Lib.hid (beq_yes hz)
      clear hv hz
      go_upto_region 9 with (fail)
      refine at_objsC S4.out (fun W9 hW => ?_)
      have HTW := Lib.hid (hW.tabs HT.out)
      have S4b := Lib.hid hW
      clear hW S4
      have S4 := S4b
      clear S4b
      obtain ⟨hx8, hf8, hz8, hr8, hc8⟩ := (S4.out.box (k := 0) rfl).put24
      obtain ⟨Ax, cx, hBx, -, -⟩ := S4.out.gridRd (k := 3) rfl
      obtain ⟨hxx, hfx, hzx⟩ := hBx.facts
      clear hBx
      refine wp_region_stage (w0 := W9) (os := []) (by kernel_rfl) (by kernel_rfl) (by kernel_rfl) [] [[], [], [], [], [], [], [], [], [], [], [], [], [], [], [], [], [], [], [], [], [], [], [], []] [] (fun opn u => match opn with | 0 => u = .pointer (some ⟨b8, 2, none⟩) | 1 => u = .agg (cv a1.x) | 2 => u = .bool true | 3 => u = .bool false | 4 => u = .bool false | 5 => u = .pointer (some ⟨b8, 2, none⟩) | 6 => u = .pointer (some ⟨b8, 6, none⟩) | 7 => u = .int .i64 a1.x.width | 8 => u = .bool true | 9 => u = .bool true | 10 => u = .bool true | 11 => u = (undef : Value) | 12 => u = (undef : Value) | 13 => u = (undef : Value) | 14 => u = (undef : Value) | 15 => u = (undef : Value) | 16 => u = (undef : Value) | 17 => u = (undef : Value) | 18 => u = (undef : Value) | 19 => u = (undef : Value) | 20 => u = (undef : Value) | 21 => u = (undef : Value) | 22 => u = .bool true | 23 => u = .bool true | _ => True) (fun vs => []) (by kernel_rfl) (fun vs => by rfl) (objs_start W9) ?_ ?_
      ·apply sc
       ·intro a w' vs σ hS hl hs hk
        have f8 : a.tmps[8]?.getD undef = .pointer (some ⟨b8, 0, none⟩) := sof hk
        exact rp (pt b8 2) (by simp [execOp, Act.eval, f8, go_sem]) hl hs hS
       apply sc
       ·intro a w' vs σ hS hl hs hk
        have f65 : a.tmps[65]?.getD undef = .pointer (some ⟨b8, 2, none⟩) := svf hk 0
        have hxx0 := (cellAt_below hS.base hz8 2).trans hc8
        exact rp (.agg (cv a1.x)) (by simp [execOp, Act.eval, f65, go_sem, hxx0]) hl hs hS
       apply sc
       ·intro a w' vs σ hS hl hs hk
        have e66 : a.tmps.getD 66 undef = .agg (cv a1.x) := svv hk 1
        exact ro_call (f := 53) (wanted_none rfl) rfl (by simp only [List.map_toArray, List.map_cons, List.map_nil, Act.eval, e66] <;> rfl) (fun _ _ => by kernel_rfl) ((valid_yes HVY.out w' (HTW.out.bel hS.base)).mono fun e w2 ⟨h1, h2⟩ => ⟨_, h1, sp_same (by kernel_rfl) hl hs (hS.bel h2) rfl, trivial⟩)
       apply sc
       ·intro a w' vs σ hS hl hs hk
        have f67 : a.tmps[67]?.getD undef = .bool true := svf hk 2
        exact rp (.bool false) (by simp [execOp, Act.eval, f67, go_sem]) hl hs hS
       apply sc
       ·intro a w' vs σ hS hl hs hk
        have f68 : a.tmps[68]?.getD undef = .bool false := svf hk 3
        exact rp (.bool false) (by simp [execOp, Act.eval, f68, go_sem]) hl hs hS
       apply sc
       ·intro a w' vs σ hS hl hs hk
        have f8 : a.tmps[8]?.getD undef = .pointer (some ⟨b8, 0, none⟩) := sof hk
        exact rq (pt b8 2) (wanted_yes rfl rfl rfl (svv hk 4)) (by simp [execOp, Act.eval, f8, go_sem]) hl hs hS
       apply sc
       ·intro a w' vs σ hS hl hs hk
        have f70 : a.tmps[70]?.getD undef = .pointer (some ⟨b8, 2, none⟩) := svf hk 5
        exact rq (pt b8 6) (wanted_yes rfl rfl rfl (svv hk 4)) (by simp [execOp, Act.eval, f70, go_sem]) hl hs hS
       apply sc
       ·intro a w' vs σ hS hl hs hk
        have f71 : a.tmps[71]?.getD undef = .pointer (some ⟨b8, 6, none⟩) := svf hk 6
        have hxx0 := (hS.base.cell (p := ⟨b8, 6, none⟩) hz8).trans (hx8 6)
        exact rq (.int .i64 a1.x.width) (wanted_yes rfl rfl rfl (svv hk 4)) (by simp [execOp, Act.eval, f71, go_sem, hxx0]) hl hs hS
       apply sc
       ·intro a w' vs σ hS hl hs hk
        have f72 : a.tmps[72]?.getD undef = .int .i64 a1.x.width := svf hk 7
        have hw0 := HW0.out
        exact rq (.bool true) (wanted_yes rfl rfl rfl (svv hk 4)) (by simp [execOp, Act.eval, f72, go_sem, hw0]) hl hs hS
       apply sc
       ·intro a w' vs σ hS hl hs hk
        have f69 : a.tmps[69]?.getD undef = .bool false := svf hk 4
        have f73 : a.tmps[73]?.getD undef = .bool true := svf hk 8
        exact rp (.bool true) (by simp [execOp, Act.eval, f69, f73, go_sem]) hl hs hS
       apply sc
       ·intro a w' vs σ hS hl hs hk
        have f74 : a.tmps[74]?.getD undef = .bool true := svf hk 9
        exact rp (.bool true) (by simp [execOp, Act.eval, f74, go_sem]) hl hs hS
       apply sc
       ·intro a w' vs σ hS hl hs hk
        exact rs_skip (wanted_no rfl rfl rfl (svv hk 10) (by decide)) (sp_same (by kernel_rfl) hl hs hS rfl)
       apply sc
       ·intro a w' vs σ hS hl hs hk
        exact rs_skip (wanted_no rfl rfl rfl (svv hk 10) (by decide)) (sp_same (by kernel_rfl) hl hs hS rfl)
       apply sc
       ·intro a w' vs σ hS hl hs hk
        exact rs_skip (wanted_no rfl rfl rfl (svv hk 10) (by decide)) (sp_same (by kernel_rfl) hl hs hS rfl)
       apply sc
       ·intro a w' vs σ hS hl hs hk
        exact rs_skip (wanted_no rfl rfl rfl (svv hk 10) (by decide)) (sp_same (by kernel_rfl) hl hs hS rfl)
       apply sc
       ·intro a w' vs σ hS hl hs hk
        exact rs_skip (wanted_no rfl rfl rfl (svv hk 10) (by decide)) (sp_same (by kernel_rfl) hl hs hS rfl)
       apply sc
       ·intro a w' vs σ hS hl hs hk
        exact rs_skip (wanted_no rfl rfl rfl (svv hk 10) (by decide)) (sp_same (by kernel_rfl) hl hs hS rfl)
       apply sc
       ·intro a w' vs σ hS hl hs hk
        exact rs_skip (wanted_no rfl rfl rfl (svv hk 10) (by decide)) (sp_same (by kernel_rfl) hl hs hS rfl)
       apply sc
       ·intro a w' vs σ hS hl hs hk
        exact rs_skip (wanted_no rfl rfl rfl (svv hk 10) (by decide)) (sp_same (by kernel_rfl) hl hs hS rfl)
       apply sc
       ·intro a w' vs σ hS hl hs hk
        exact rs_skip (wanted_no rfl rfl rfl (svv hk 10) (by decide)) (sp_same (by kernel_rfl) hl hs hS rfl)
       apply sc
       ·intro a w' vs σ hS hl hs hk
        exact rs_skip (wanted_no rfl rfl rfl (svv hk 10) (by decide)) (sp_same (by kernel_rfl) hl hs hS rfl)
       apply sc
       ·intro a w' vs σ hS hl hs hk
        exact rs_skip (wanted_no rfl rfl rfl (svv hk 10) (by decide)) (sp_same (by kernel_rfl) hl hs hS rfl)
       apply sc
       ·intro a w' vs σ hS hl hs hk
        have f75 : a.tmps[75]?.getD undef = .bool true := svf hk 10
        have f86 : a.tmps[86]?.getD undef = (undef : Value) := svf hk 21
        exact rp (.bool true) (by simp [execOp, Act.eval, f75, f86, go_sem]) hl hs hS
       apply sc
       ·intro a w' vs σ hS hl hs hk
        have f87 : a.tmps[87]?.getD undef = .bool true := svf hk 22
        exact rp (.bool true) (by simp [execOp, Act.eval, f87, go_sem]) hl hs hS
       exact SSteps.nil
      ·intro vs w' hS hv
       have q0 : vs 0 = _ := hv 0 (by decide)
       have q1 : vs 1 = _ := hv 1 (by decide)
       have q2 : vs 2 = _ := hv 2 (by decide)
       have q3 : vs 3 = _ := hv 3 (by decide)
       have q4 : vs 4 = _ := hv 4 (by decide)
       have q5 : vs 5 = _ := hv 5 (by decide)
       have q6 : vs 6 = _ := hv 6 (by decide)
       have q7 : vs 7 = _ := hv 7 (by decide)
       have q8 : vs 8 = _ := hv 8 (by decide)
       have q9 : vs 9 = _ := hv 9 (by decide)
       have q10 : vs 10 = _ := hv 10 (by decide)
       have q11 : vs 11 = _ := hv 11 (by decide)
       have q12 : vs 12 = _ := hv 12 (by decide)
       have q13 : vs 13 = _ := hv 13 (by decide)
       have q14 : vs 14 = _ := hv 14 (by decide)
       have q15 : vs 15 = _ := hv 15 (by decide)
       have q16 : vs 16 = _ := hv 16 (by decide)
       have q17 : vs 17 = _ := hv 17 (by decide)
       have q18 : vs 18 = _ := hv 18 (by decide)
       have q19 : vs 19 = _ := hv 19 (by decide)
       have q20 : vs 20 = _ := hv 20 (by decide)
       have q21 : vs 21 = _ := hv 21 (by decide)
       have q22 : vs 22 = _ := hv 22 (by decide)
       have q23 : vs 23 = _ := hv 23 (by decide)
       have S2 := Lib.hid hS
       simp only [putL, Act.put, Nat.zero_add, Nat.reduceAdd, List.setIfInBounds_toArray, List.set_cons_succ, List.set_cons_zero, q0, q1, q2, q3, q4, q5, q6, q7, q8, q9, q10, q11, q12, q13, q14, q15, q16, q17, q18, q19, q20, q21, q22, q23]
       clear hS hv q0 q1 q2 q3 q4 q5 q6 q7 q8 q9 q10 q11 q12 q13 q14 q15 q16 q17 q18 q19 q20 q21 q22 q23
       have S5 := Lib.hid (S4.out.bel S2.out.base)
       clear S2 S4 HTW hx8 hf8 hz8 hr8 hc8 hxx hfx hzx
       have HE := Lib.hid (show putE a1.row a1.col a1.x s.cols s.U.length = 2 from putE_bad HIN.out (fun h => h.2.1 HZ.out))
       have HN := Lib.hid (show putR24 a1.row a1.col a1.x s.cols s.U = s.U from putR24_no (by rw [HE.out]; decide))
       go_wp2_with fail
       go_meet
       case rel => exact ⟨by rw [HE.out], by rw [HN.out]; exact S5.out⟩
     case neg =>
      have HZ := Lib.hid hz
      have HW0 := Lib.hid (beq_no hz)
      have h12 := ok_w12 hv hz
      have HWC := Lib.hid (show IntKind.i64.wrap (a1.col + a1.x.width) = a1.col + a1.x.width from IntWalk.i64_in _ (by have := HG.out.cm; omega))
      obtain ⟨bd, hbd⟩ : ∃ bd, decide ((s.cols : Int) < a1.col + a1.x.width) = bd := ⟨_, rfl⟩
      have HWD := Lib.hid hbd
      clear hv hz hbd h12
      go_upto_region 9 with (fail)
      refine at_objsC S4.out (fun W9 hW => ?_)
      have HTW := Lib.hid (hW.tabs HT.out)
      have S4b := Lib.hid hW
      clear hW S4
      have S4 := S4b
      clear S4b
      obtain ⟨hx8, hf8, hz8, hr8, hc8⟩ := (S4.out.box (k := 0) rfl).put24
      obtain ⟨Ax, cx, hBx, -, -⟩ := S4.out.gridRd (k := 3) rfl
      obtain ⟨hxx, hfx, hzx⟩ := hBx.facts
      clear hBx
      refine wp_region_stage (w0 := W9) (os := []) (by kernel_rfl) (by kernel_rfl) (by kernel_rfl) [] [[], [], [], [], [], [], [], [], [], [], [], [], [], [], [], [], [], [], [], [], [], [], [], []] [] (fun opn u => match opn with | 0 => u = .pointer (some ⟨b8, 2, none⟩) | 1 => u = .agg (cv a1.x) | 2 => u = .bool true | 3 => u = .bool false | 4 => u = .bool false | 5 => u = .pointer (some ⟨b8, 2, none⟩) | 6 => u = .pointer (some ⟨b8, 6, none⟩) | 7 => u = .int .i64 a1.x.width | 8 => u = .bool false | 9 => u = .bool false | 10 => u = .bool false | 11 => u = .pointer (some ⟨b8, 1, none⟩) | 12 => u = .int .i64 a1.col | 13 => u = .pointer (some ⟨b8, 2, none⟩) | 14 => u = .pointer (some ⟨b8, 6, none⟩) | 15 => u = .int .i64 a1.x.width | 16 => u = .int .i64 (a1.col + a1.x.width) | 17 => u = .pointer (some ⟨ug, 0, none⟩) | 18 => u = .pointer (some ⟨ug, 0, none⟩) | 19 => u = .pointer (some ⟨ug, 0, none⟩) | 20 => u = .int .i64 ↑s.cols | 21 => u = .bool bd | 22 => u = .bool bd | 23 => u = .bool bd | _ => True) (fun vs => []) (by kernel_rfl) (fun vs => by rfl) (objs_start W9) ?_ ?_
      ·apply sc
       ·intro a w' vs σ hS hl hs hk
        have f8 : a.tmps[8]?.getD undef = .pointer (some ⟨b8, 0, none⟩) := sof hk
        exact rp (pt b8 2) (by simp [execOp, Act.eval, f8, go_sem]) hl hs hS
       apply sc
       ·intro a w' vs σ hS hl hs hk
        have f65 : a.tmps[65]?.getD undef = .pointer (some ⟨b8, 2, none⟩) := svf hk 0
        have hxx0 := (cellAt_below hS.base hz8 2).trans hc8
        exact rp (.agg (cv a1.x)) (by simp [execOp, Act.eval, f65, go_sem, hxx0]) hl hs hS
       apply sc
       ·intro a w' vs σ hS hl hs hk
        have e66 : a.tmps.getD 66 undef = .agg (cv a1.x) := svv hk 1
        exact ro_call (f := 53) (wanted_none rfl) rfl (by simp only [List.map_toArray, List.map_cons, List.map_nil, Act.eval, e66] <;> rfl) (fun _ _ => by kernel_rfl) ((valid_yes HVY.out w' (HTW.out.bel hS.base)).mono fun e w2 ⟨h1, h2⟩ => ⟨_, h1, sp_same (by kernel_rfl) hl hs (hS.bel h2) rfl, trivial⟩)
       apply sc
       ·intro a w' vs σ hS hl hs hk
        have f67 : a.tmps[67]?.getD undef = .bool true := svf hk 2
        exact rp (.bool false) (by simp [execOp, Act.eval, f67, go_sem]) hl hs hS
       apply sc
       ·intro a w' vs σ hS hl hs hk
        have f68 : a.tmps[68]?.getD undef = .bool false := svf hk 3
        exact rp (.bool false) (by simp [execOp, Act.eval, f68, go_sem]) hl hs hS
       apply sc
       ·intro a w' vs σ hS hl hs hk
        have f8 : a.tmps[8]?.getD undef = .pointer (some ⟨b8, 0, none⟩) := sof hk
        exact rq (pt b8 2) (wanted_yes rfl rfl rfl (svv hk 4)) (by simp [execOp, Act.eval, f8, go_sem]) hl hs hS
       apply sc
       ·intro a w' vs σ hS hl hs hk
        have f70 : a.tmps[70]?.getD undef = .pointer (some ⟨b8, 2, none⟩) := svf hk 5
        exact rq (pt b8 6) (wanted_yes rfl rfl rfl (svv hk 4)) (by simp [execOp, Act.eval, f70, go_sem]) hl hs hS
       apply sc
       ·intro a w' vs σ hS hl hs hk
        have f71 : a.tmps[71]?.getD undef = .pointer (some ⟨b8, 6, none⟩) := svf hk 6
        have hxx0 := (hS.base.cell (p := ⟨b8, 6, none⟩) hz8).trans (hx8 6)
        exact rq (.int .i64 a1.x.width) (wanted_yes rfl rfl rfl (svv hk 4)) (by simp [execOp, Act.eval, f71, go_sem, hxx0]) hl hs hS
       apply sc
       ·intro a w' vs σ hS hl hs hk
        have f72 : a.tmps[72]?.getD undef = .int .i64 a1.x.width := svf hk 7
        have hw0 := HW0.out
        exact rq (.bool false) (wanted_yes rfl rfl rfl (svv hk 4)) (by simp [execOp, Act.eval, f72, go_sem, hw0]) hl hs hS
       apply sc
       ·intro a w' vs σ hS hl hs hk
        have f69 : a.tmps[69]?.getD undef = .bool false := svf hk 4
        have f73 : a.tmps[73]?.getD undef = .bool false := svf hk 8
        exact rp (.bool false) (by simp [execOp, Act.eval, f69, f73, go_sem]) hl hs hS
       apply sc
       ·intro a w' vs σ hS hl hs hk
        have f74 : a.tmps[74]?.getD undef = .bool false := svf hk 9
        exact rp (.bool false) (by simp [execOp, Act.eval, f74, go_sem]) hl hs hS
       apply sc
       ·intro a w' vs σ hS hl hs hk
        have f8 : a.tmps[8]?.getD undef = .pointer (some ⟨b8, 0, none⟩) := sof hk
        exact rq (pt b8 1) (wanted_yes rfl rfl rfl (svv hk 10)) (by simp [execOp, Act.eval, f8, go_sem]) hl hs hS
       apply sc
       ·intro a w' vs σ hS hl hs hk
        have f76 : a.tmps[76]?.getD undef = .pointer (some ⟨b8, 1, none⟩) := svf hk 11
        have hxx0 := (hS.base.cell (p := ⟨b8, 1, none⟩) hz8).trans (hx8 1)
        exact rq (.int .i64 a1.col) (wanted_yes rfl rfl rfl (svv hk 10)) (by simp [execOp, Act.eval, f76, go_sem, hxx0]) hl hs hS
       apply sc
       ·intro a w' vs σ hS hl hs hk
        have f8 : a.tmps[8]?.getD undef = .pointer (some ⟨b8, 0, none⟩) := sof hk
        exact rq (pt b8 2) (wanted_yes rfl rfl rfl (svv hk 10)) (by simp [execOp, Act.eval, f8, go_sem]) hl hs hS
       apply sc
       ·intro a w' vs σ hS hl hs hk
        have f78 : a.tmps[78]?.getD undef = .pointer (some ⟨b8, 2, none⟩) := svf hk 13
        exact rq (pt b8 6) (wanted_yes rfl rfl rfl (svv hk 10)) (by simp [execOp, Act.eval, f78, go_sem]) hl hs hS
       apply sc
       ·intro a w' vs σ hS hl hs hk
        have f79 : a.tmps[79]?.getD undef = .pointer (some ⟨b8, 6, none⟩) := svf hk 14
        have hxx0 := (hS.base.cell (p := ⟨b8, 6, none⟩) hz8).trans (hx8 6)
        exact rq (.int .i64 a1.x.width) (wanted_yes rfl rfl rfl (svv hk 10)) (by simp [execOp, Act.eval, f79, go_sem, hxx0]) hl hs hS
       apply sc
       ·intro a w' vs σ hS hl hs hk
        have f77 : a.tmps[77]?.getD undef = .int .i64 a1.col := svf hk 12
        have f80 : a.tmps[80]?.getD undef = .int .i64 a1.x.width := svf hk 15
        exact rq (.int .i64 (a1.col + a1.x.width)) (wanted_yes rfl rfl rfl (svv hk 10)) (by simp [execOp, Act.eval, f77, f80, go_sem, HWC.out]) hl hs hS
       apply sc
       ·intro a w' vs σ hS hl hs hk
        have f7 : a.tmps[7]?.getD undef = .pointer (some ⟨ug, 0, none⟩) := sof hk
        exact rq (pt ug 0) (wanted_yes rfl rfl rfl (svv hk 10)) (by simp [execOp, Act.eval, f7, go_sem]) hl hs hS
       apply sc
       ·intro a w' vs σ hS hl hs hk
        have f82 : a.tmps[82]?.getD undef = .pointer (some ⟨ug, 0, none⟩) := svf hk 17
        exact rq (pt ug 0) (wanted_yes rfl rfl rfl (svv hk 10)) (by simp [execOp, Act.eval, f82, go_sem]) hl hs hS
       apply sc
       ·intro a w' vs σ hS hl hs hk
        have f83 : a.tmps[83]?.getD undef = .pointer (some ⟨ug, 0, none⟩) := svf hk 18
        exact rq (pt ug 0) (wanted_yes rfl rfl rfl (svv hk 10)) (by simp [execOp, Act.eval, f83, go_sem]) hl hs hS
       apply sc
       ·intro a w' vs σ hS hl hs hk
        have f84 : a.tmps[84]?.getD undef = .pointer (some ⟨ug, 0, none⟩) := svf hk 19
        have hxx0 := (hS.base.cell (p := ⟨ug, 0, none⟩) hzx).trans (hxx 0)
        exact rq (.int .i64 ↑s.cols) (wanted_yes rfl rfl rfl (svv hk 10)) (by simp [execOp, Act.eval, f84, go_sem, hxx0]) hl hs hS
       apply sc
       ·intro a w' vs σ hS hl hs hk
        have f81 : a.tmps[81]?.getD undef = .int .i64 (a1.col + a1.x.width) := svf hk 16
        have f85 : a.tmps[85]?.getD undef = .int .i64 ↑s.cols := svf hk 20
        have hwide := HWD.out
        exact rq (.bool bd) (wanted_yes rfl rfl rfl (svv hk 10)) (by simp [execOp, Act.eval, f81, f85, go_sem, hwide]) hl hs hS
       apply sc
       ·intro a w' vs σ hS hl hs hk
        have f75 : a.tmps[75]?.getD undef = .bool false := svf hk 10
        have f86 : a.tmps[86]?.getD undef = .bool bd := svf hk 21
        exact rp (.bool bd) (by simp [execOp, Act.eval, f75, f86, go_sem]) hl hs hS
       apply sc
       ·intro a w' vs σ hS hl hs hk
        have f87 : a.tmps[87]?.getD undef = .bool bd := svf hk 22
        exact rp (.bool bd) (by simp [execOp, Act.eval, f87, go_sem]) hl hs hS
       exact SSteps.nil
      ·intro vs w' hS hv
       have q0 : vs 0 = _ := hv 0 (by decide)
       have q1 : vs 1 = _ := hv 1 (by decide)
       have q2 : vs 2 = _ := hv 2 (by decide)
       have q3 : vs 3 = _ := hv 3 (by decide)
       have q4 : vs 4 = _ := hv 4 (by decide)
       have q5 : vs 5 = _ := hv 5 (by decide)
       have q6 : vs 6 = _ := hv 6 (by decide)
       have q7 : vs 7 = _ := hv 7 (by decide)
       have q8 : vs 8 = _ := hv 8 (by decide)
       have q9 : vs 9 = _ := hv 9 (by decide)
       have q10 : vs 10 = _ := hv 10 (by decide)
       have q11 : vs 11 = _ := hv 11 (by decide)
       have q12 : vs 12 = _ := hv 12 (by decide)
       have q13 : vs 13 = _ := hv 13 (by decide)
       have q14 : vs 14 = _ := hv 14 (by decide)
       have q15 : vs 15 = _ := hv 15 (by decide)
       have q16 : vs 16 = _ := hv 16 (by decide)
       have q17 : vs 17 = _ := hv 17 (by decide)
       have q18 : vs 18 = _ := hv 18 (by decide)
       have q19 : vs 19 = _ := hv 19 (by decide)
       have q20 : vs 20 = _ := hv 20 (by decide)
       have q21 : vs 21 = _ := hv 21 (by decide)
       have q22 : vs 22 = _ := hv 22 (by decide)
       have q23 : vs 23 = _ := hv 23 (by decide)
       have S2 := Lib.hid hS
       simp only [putL, Act.put, Nat.zero_add, Nat.reduceAdd, List.setIfInBounds_toArray, List.set_cons_succ, List.set_cons_zero, q0, q1, q2, q3, q4, q5, q6, q7, q8, q9, q10, q11, q12, q13, q14, q15, q16, q17, q18, q19, q20, q21, q22, q23]
       clear hS hv q0 q1 q2 q3 q4 q5 q6 q7 q8 q9 q10 q11 q12 q13 q14 q15 q16 q17 q18 q19 q20 q21 q22 q23
       have S5 := Lib.hid (S4.out.bel S2.out.base)
       clear S2 S4 HTW hx8 hf8 hz8 hr8 hc8 hxx hfx hzx
       cases bd with
       | true =>
        have HE := Lib.hid (show putE a1.row a1.col a1.x s.cols s.U.length = 2 from putE_bad HIN.out (fun h => by have := of_decide_eq_true HWD.out; omega))
        have HN := Lib.hid (show putR24 a1.row a1.col a1.x s.cols s.U = s.U from putR24_no (by rw [HE.out]; decide))
        go_wp2_with fail
        go_meet
        case rel => exact ⟨by rw [HE.out], by rw [HN.out]; exact S5.out⟩
       | false =>
        have HF := Lib.hid (show a1.col + a1.x.width ≤ s.cols by have := of_decide_eq_false HWD.out; omega)
        have HE := Lib.hid (show putE a1.row a1.col a1.x s.cols s.U.length = 0 from putE_fit HIN.out ⟨HVY.out, HZ.out, HF.out⟩)
        obtain ⟨i, j, hi, hj, hil, hjl, -, -, hfit⟩ := putE_yes HE.out
        have HN := Lib.hid (show putR24 a1.row a1.col a1.x s.cols s.U = rowMod i (putC j a1.x) s.U by unfold putR24; rw [if_pos HE.out, hi, hj]; simp)
        have HI := Lib.hid hi
        have HJ := Lib.hid hj
        clear hi hj
        obtain ⟨hx8, hf8, hz8, hr8, hc8⟩ := (S5.out.box (k := 0) rfl).put24
        go_wp2_with fail
        rw [HI.out, HJ.out]
        refine (r14PutG (i := i) (j := j) a1.x S5.out (k := 3) rfl HG.out.cm HG.out.U.1 hil HVY.out HZ.out hfit).mono ?_
        rintro e w6 ⟨rfl, hS⟩
        have S6 := Lib.hid hS
        clear hS S5 hx8 hf8 hz8 hr8 hc8
        go_wp2_with fail
        go_meet
        case rel => exact ⟨by rw [HE.out], by rw [HN.out]; exact S6.out⟩
 case rest =>
  obtain ⟨rfl, hS⟩ := hcut
  have hS2 := HCL.out _ _ _ (Objs.pick (σ := [_, _, _, _, _, _]) (os := os) hS [some 2, some 3, some 4, some 0, some 1, some 5] (by decide) rfl)
  have S5 := Lib.hid hS2
  clear hS hS2 S3
  obtain ⟨hx8, hf8, hz8, hr8, hc8⟩ := (S5.out.box (k := 1) rfl).put24
  go_wp2_with fail
  have hcon := front_call S5.out (k := 3) rfl (fun os1 h => puts_front (row := a1.row) (col := a1.col) a1.x HT.out h HG.out)
  rw [← HG.out.U.2.1] at hcon
  refine hcon.mono ?_
  rintro e w8 ⟨rfl, hS⟩
  have S6 := Lib.hid hS
  clear hS S5 hx8 hf8 hz8 hr8 hc8 hcon
  go_wp2_with fail
  go_ret
  exact ⟨by first | rfl | simp, Objs.swap (Objs.tail (Objs.tail (Objs.pick (σ := [_, _, _, _]) (os := os) S6.out [some 1, some 2, some 0, some 3] (by decide) rfl)))⟩
end
end Go.Proofs.YtdndoikgnohkkaaDoor

set_option linter.constructorNameAsVariable false
set_option maxRecDepth 100000
namespace Go.Proofs.YtdndoikgnohkkaaDoor
open Go.ChangeShapes Go.WideShapes Go.ChangeAt Go.RowKit Go.Deep Go.WideElems

section
variable {H : Type} {enc : TypeId × Value → H}

theorem trodAll_below {P : Program} (hl : laidOutB P = true) {W W' : World} (hb : Below W.heap.size W W') {sp : Nat → Bool} : ∀ (ts : List TypeId) (vs : List Value) (ds : List (DataW H)) (ps : List MemPlace), (∀ t ∈ ts, P.readableRec t = true ∧ t < P.types.size) →
  DataW.TrodAll enc P W 0 (fun _ => true) true ts vs ds ps → (∀ x ∈ ps, x.block < W.heap.size) → (∀ x ∈ ps, sp x.block = true) → DataW.TrodAll enc P W' 0 sp true ts vs ds ps
 | [], [], [], ps, _, h, _, _ => h
 | t :: ts, v :: vs, d :: ds, ps, ht, h, hlt, hs => by
  obtain ⟨p, q, h1, h2, rfl⟩ := h
  exact ⟨p, q, Trod_stays hl (ht t (by simp)).1 (ht t (by simp)).2 h1 (fun x hx => hb.same (hlt x (by simp [hx]))) (fun x hx => hs x (by simp [hx])),
   trodAll_below hl hb ts vs ds q (fun u hu => ht u (by simp [hu])) h2 (fun x hx => hlt x (by simp [hx])) (fun x hx => hs x (by simp [hx])), rfl⟩
 | [], _ :: _, _, _, _, h, _, _ => by cases h
 | [], [], _ :: _, _, _, h, _, _ => by cases h
 | _ :: _, [], _, _, _, h, _, _ => by cases h
 | _ :: _, _ :: _, [], _, _, h, _, _ => by cases h

theorem law_post {P : Program} {f : Func} {s : ChangeSpec} {W W' : World} {args : Array Value} {ds gs : List (DataW H)} {before : List MemPlace} {tb : TypeId} (hv : s.vars = []) (hl : laidOutB P = true)
  (hW : DataW.Whole enc P f.params.toList s.vars false W args.toList ds gs before) (hpar : ∀ t ∈ f.params.toList, P.readableRec t = true ∧ t < P.types.size)
  (hfn : gs = [] → (s.fn H (ds ++ gs)).results = [.lit (.bool true)] ∧ (s.fn H (ds ++ gs)).args = ds ∧ (s.fn H (ds ++ gs)).vars = []) (hr : f.resultTypes = #[tb]) (htb : P.underlying tb = some .bool) (hb : Below W.heap.size W W') :
  s.post enc P f false true false false W args (.bool true) W' := by
 have hlt : ∀ p ∈ before, p.block < W.heap.size := fun p hp => hW.lt p hp
 have hW' := hW
 obtain ⟨p, q, hA, hV, rfl, hfz, hnd⟩ := hW
 rw [hv] at hV
 obtain ⟨rfl, rfl⟩ := trodVars_none hV
 obtain ⟨f1, f2, f3⟩ := hfn rfl
 have hargs : ∀ sp : Nat → Bool, (∀ x ∈ p, sp x.block = true) → DataW.TrodAll enc P W' 0 sp true f.params.toList args.toList (s.fn H (ds ++ [])).args p := fun sp hs => by
  rw [f2]; exact trodAll_below hl hb _ _ _ _ hpar hA (fun x hx => hlt x (by simp [hx])) hs
 have hres : ∀ (b : Nat) (sp : Nat → Bool) (hd : Bool), DataW.TrodAll enc P W' b sp hd f.resultTypes.toList ((Value.bool true).resultList f.resultTypes.size) (s.fn H (ds ++ [])).results [] := fun b sp hd => by
  rw [f1, hr]; exact trodAll_cons_mk (shut_bool htb _) trodAll_mk0
 have hvars : ∀ sp : Nat → Bool, DataW.TrodVars enc P W' sp s.vars (s.fn H (ds ++ [])).vars [] := fun sp => by rw [hv, f3]; rfl
 have hold : ∀ x ∈ p, (fun b => decide (b < W.heap.size)) x.block = true := fun x hx => by simpa using hlt x (by simp [hx])
 refine ⟨ds, [], p ++ [], [], p, [], hW', hres _ _ _, hargs _ hold, hvars _, World.keptBut_mono (fun x hx => ⟨hx, ?_⟩) (hb.frame (· ∈ p ++ [])), fun h => by cases h⟩
 exact Or.inr (by simpa using hx)

section
variable {w : World} {base : Nat} {sp : Nat → Bool} {hd : Bool} {fuel : Nat} {cs : List Value} {x : DataW H × List MemPlace}
theorem cells_color : Tryd.prog.cellsOf 26 = 5 := by kernel_rfl
theorem cells_pen : Tryd.prog.cellsOf 29 = 11 := by kernel_rfl
theorem cells_cell : Tryd.prog.cellsOf 61 = 16 := by kernel_rfl
theorem cells_arr3 : Tryd.prog.cellsOf 59 = 3 := by kernel_rfl
theorem cells_i32 : Tryd.prog.cellsOf 21 = 1 := by kernel_rfl
theorem cells_int : Tryd.prog.cellsOf 3 = 1 := by kernel_rfl
theorem cells_u8 : Tryd.prog.cellsOf 5 = 1 := by kernel_rfl
theorem cells_kind : Tryd.prog.cellsOf 24 = 1 := by kernel_rfl
theorem cells_flags : Tryd.prog.cellsOf 27 = 1 := by kernel_rfl
theorem num_field {P : Program} {t : TypeId} {k : IntKind} {c : Value} {y : Option (DataW H × List MemPlace)} (ht : P.underlying t = some (.int k)) (hy : y.isSome = true) (h : DataW.trod enc P w base sp hd fuel t [c] = y) : ∃ n, c = .int k n := by
 obtain ⟨z, hz⟩ := Option.isSome_iff_exists.1 hy
 obtain ⟨n, hn, _⟩ := DataW.trod_int ht (h.trans hz)
 exact ⟨n, by simpa using hn⟩
theorem trod_color (h : DataW.trod enc Tryd.prog w base sp hd fuel 26 cs = some x) : ∃ k i r g b, cs = [.int .i64 k, .int .u8 i, .int .u8 r, .int .u8 g, .int .u8 b] := by
 obtain ⟨xs, n, _, _, hlen, hxl, hf⟩ := DataW.trod_struct Tryd.underlying26 h
 rw [cells_color] at hlen
 match cs, hlen, hf with
 | [c0, c1, c2, c3, c4], _, hf =>
  have h0 : DataW.trod enc Tryd.prog w base sp hd n 24 (([c0, c1, c2, c3, c4].drop 0).take (Tryd.prog.cellsOf 24)) = xs[0]? := hf 0 _ rfl
  have h1 : DataW.trod enc Tryd.prog w base sp hd n 5 (([c0, c1, c2, c3, c4].drop 1).take (Tryd.prog.cellsOf 5)) = xs[1]? := hf 1 _ rfl
  have h2 : DataW.trod enc Tryd.prog w base sp hd n 5 (([c0, c1, c2, c3, c4].drop 2).take (Tryd.prog.cellsOf 5)) = xs[2]? := hf 2 _ rfl
  have h3 : DataW.trod enc Tryd.prog w base sp hd n 5 (([c0, c1, c2, c3, c4].drop 3).take (Tryd.prog.cellsOf 5)) = xs[3]? := hf 3 _ rfl
  have h4 : DataW.trod enc Tryd.prog w base sp hd n 5 (([c0, c1, c2, c3, c4].drop 4).take (Tryd.prog.cellsOf 5)) = xs[4]? := hf 4 _ rfl
  simp only [cells_kind, cells_u8, List.drop_zero, List.drop_succ_cons, List.take_succ_cons, List.take_zero] at h0 h1 h2 h3 h4
  obtain ⟨k, rfl⟩ := num_field Tryd.underlying24 (by simp [hxl]) h0
  obtain ⟨i, rfl⟩ := num_field Tryd.underlying5 (by simp [hxl]) h1
  obtain ⟨r, rfl⟩ := num_field Tryd.underlying5 (by simp [hxl]) h2
  obtain ⟨g, rfl⟩ := num_field Tryd.underlying5 (by simp [hxl]) h3
  obtain ⟨b, rfl⟩ := num_field Tryd.underlying5 (by simp [hxl]) h4
  exact ⟨k, i, r, g, b, rfl⟩
theorem some_of {α : Type} {y : Option α} (h : y.isSome = true) : ∃ z, y = some z := Option.isSome_iff_exists.1 h
theorem trod_pen (h : DataW.trod enc Tryd.prog w base sp hd fuel 29 cs = some x) : ∃ q : Pen, cs = (pv q).toList := by
 obtain ⟨xs, n, _, _, hlen, hxl, hf⟩ := DataW.trod_struct Tryd.underlying29 h
 rw [cells_pen] at hlen
 have h0 : DataW.trod enc Tryd.prog w base sp hd n 26 ((cs.drop 0).take (Tryd.prog.cellsOf 26)) = xs[0]? := hf 0 _ rfl
 have h1 : DataW.trod enc Tryd.prog w base sp hd n 26 ((cs.drop 5).take (Tryd.prog.cellsOf 26)) = xs[1]? := hf 1 _ rfl
 have h2 : DataW.trod enc Tryd.prog w base sp hd n 27 ((cs.drop 10).take (Tryd.prog.cellsOf 27)) = xs[2]? := hf 2 _ rfl
 obtain ⟨z0, e0⟩ := some_of (show (xs[0]?).isSome = true by simp [hxl])
 obtain ⟨z1, e1⟩ := some_of (show (xs[1]?).isSome = true by simp [hxl])
 simp only [cells_color, cells_flags] at h0 h1 h2
 obtain ⟨k, i, r, g, b, hc0⟩ := trod_color (h0.trans e0)
 obtain ⟨k', i', r', g', b', hc1⟩ := trod_color (h1.trans e1)
 match cs, hlen with
 | [c0, c1, c2, c3, c4, c5, c6, c7, c8, c9, c10], _ =>
  simp only [List.drop_zero, List.drop_succ_cons, List.take_succ_cons, List.take_zero] at h2 hc0 hc1
  obtain ⟨fl, rfl⟩ := num_field Tryd.underlying27 (by simp [hxl]) h2
  simp only [List.cons.injEq, and_true] at hc0 hc1
  obtain ⟨rfl, rfl, rfl, rfl, rfl⟩ := hc0
  obtain ⟨rfl, rfl, rfl, rfl, rfl⟩ := hc1
  exact ⟨⟨k, i, r, g, b, k', i', r', g', b', fl⟩, rfl⟩
theorem trod_arr3 (h : DataW.trod enc Tryd.prog w base sp hd fuel 59 cs = some x) : ∃ a b c, cs = [.int .i32 a, .int .i32 b, .int .i32 c] := by
 obtain ⟨xs, n, _, _, hlen, hxl, hf⟩ := DataW.trod_array Tryd.underlying59 h
 rw [cells_arr3] at hlen
 match cs, hlen with
 | [c0, c1, c2], _ =>
  have h0 := hf 0 (by omega)
  have h1 := hf 1 (by omega)
  have h2 := hf 2 (by omega)
  simp only [cells_i32, Nat.zero_mul, Nat.one_mul, Nat.mul_one, List.drop_zero, List.drop_succ_cons, List.take_succ_cons, List.take_zero] at h0 h1 h2
  obtain ⟨a, rfl⟩ := num_field Tryd.underlying21 (by simp [hxl]) h0
  obtain ⟨b, rfl⟩ := num_field Tryd.underlying21 (by simp [hxl]) h1
  obtain ⟨c, rfl⟩ := num_field Tryd.underlying21 (by simp [hxl]) h2
  exact ⟨a, b, c, rfl⟩
theorem trod_cell (h : DataW.trod enc Tryd.prog w base sp hd fuel 61 cs = some x) : ∃ q : Cell, cs = (cv q).toList := by
 obtain ⟨xs, n, _, _, hlen, hxl, hf⟩ := DataW.trod_struct Tryd.underlying61 h
 rw [cells_cell] at hlen
 have h0 : DataW.trod enc Tryd.prog w base sp hd n 21 ((cs.drop 0).take (Tryd.prog.cellsOf 21)) = xs[0]? := hf 0 _ rfl
 have h1 : DataW.trod enc Tryd.prog w base sp hd n 59 ((cs.drop 1).take (Tryd.prog.cellsOf 59)) = xs[1]? := hf 1 _ rfl
 have h2 : DataW.trod enc Tryd.prog w base sp hd n 3 ((cs.drop 4).take (Tryd.prog.cellsOf 3)) = xs[2]? := hf 2 _ rfl
 have h3 : DataW.trod enc Tryd.prog w base sp hd n 29 ((cs.drop 5).take (Tryd.prog.cellsOf 29)) = xs[3]? := hf 3 _ rfl
 obtain ⟨z1, e1⟩ := some_of (show (xs[1]?).isSome = true by simp [hxl])
 obtain ⟨z3, e3⟩ := some_of (show (xs[3]?).isSome = true by simp [hxl])
 simp only [cells_i32, cells_arr3, cells_int, cells_pen] at h0 h1 h2 h3
 obtain ⟨m0, m1, m2, hm⟩ := trod_arr3 (h1.trans e1)
 obtain ⟨q, hq⟩ := trod_pen (h3.trans e3)
 match cs, hlen with
 | [c0, c1, c2, c3, c4, c5, c6, c7, c8, c9, c10, c11, c12, c13, c14, c15], _ =>
  simp only [List.drop_zero, List.drop_succ_cons, List.take_succ_cons, List.take_zero] at h0 h2 hm hq
  obtain ⟨r, rfl⟩ := num_field Tryd.underlying21 (by simp [hxl]) h0
  obtain ⟨wd, rfl⟩ := num_field Tryd.underlying3 (by simp [hxl]) h2
  simp only [List.cons.injEq, and_true] at hm
  obtain ⟨rfl, rfl, rfl⟩ := hm
  simp only [pv, List.cons.injEq, and_true] at hq
  obtain ⟨rfl, rfl, rfl, rfl, rfl, rfl, rfl, rfl, rfl, rfl, rfl⟩ := hq
  exact ⟨⟨r, m0, m1, m2, wd, q⟩, rfl⟩
end
theorem trod_cells {w : World} {fuel : Nat} {cs : List Value} {x : DataW H × List MemPlace} {hd : Bool} (h : DataW.trod enc Tryd.prog w 0 (fun _ => true) hd fuel 84 cs = some x) : ∃ A c l, cs = [.slice A l.length c] ∧ RdC w A c l ∧ c ≤ maxLen := by
 rcases open_slice Tryd.underlying84 h with ⟨rfl, _⟩ | ⟨a, len, cap, m, n, D, Pl, rfl, _, hl, hm, hmm, _, hi⟩
 ·exact ⟨none, 0, [], rfl, RdC.nil _, by simp [maxLen]⟩
 ·simp only [if_true] at hmm
  subst hmm
  rw [cells_cell] at hi
  have hall : ∀ i, i < len → ∃ c : Cell, ∀ j, j < 16 → w.cell? ((a.add (i * 16)).add j) = (cv c)[j]? := by
   intro i hlt
   obtain ⟨cs', hc, ht⟩ := hi i (by omega)
   obtain ⟨_, hcl, hat⟩ := World.cells?_some hc
   obtain ⟨c, rfl⟩ := trod_cell ht
   exact ⟨c, fun j hj => by rw [hat j hj]; simp⟩
  have hl2 : ∃ l : List Cell, l.length = len ∧ ∀ i (h : i < l.length), ∀ j, j < 16 → w.cell? ((a.add (i * 16)).add j) = (cv l[i])[j]? := by
   refine ⟨(List.range len).map fun i => if h : i < len then (hall i h).choose else cell0, by simp, fun i h j hj => ?_⟩
   have hlt : i < len := by simpa using h
   simp only [List.getElem_map, List.getElem_range, hlt, dif_pos]
   exact (hall i hlt).choose_spec j hj
  obtain ⟨l, rfl, hcell⟩ := hl2
  refine ⟨some a, m, l, rfl, ⟨hl, (fun h => by cases h), fun hn => ?_⟩, hm⟩
  have h00 := hcell 0 hn 0 (by omega)
  simp only [Nat.zero_mul, Addr.add_zero', cv_get0] at h00
  obtain ⟨b, off, spot⟩ := a
  have hspot : spot = none := by
   cases spot with
   | none => rfl
   | some q => simp [World.cell?] at h00; split at h00 <;> simp at h00
  subst hspot
  refine ⟨b, off, rfl, block_lt_of_cell h00, fun j v hv => ?_⟩
  have hj : j < (flat l).length := (List.getElem?_eq_some_iff.1 hv).1
  rw [flat_length] at hj
  have hk : j / 16 < l.length := by omega
  have := hcell (j / 16) hk (j % 16) (by omega)
  rw [add_at, add_at] at this
  rw [show off + j = off + j / 16 * 16 + j % 16 by omega, this, ← hv, ← flat_at l (j / 16) (j % 16) l[j / 16] (by simp [hk]) (by omega)]
  congr 1; omega
end
end Go.Proofs.YtdndoikgnohkkaaDoor

set_option linter.constructorNameAsVariable false
set_option maxRecDepth 100000
namespace Go.Proofs.YtdndoikgnohkkaaDoor
open Go.ChangeShapes Go.WideShapes Go.ChangeAt Go.RowKit Go.Deep Go.WideElems

section
variable {H : Type} {enc : TypeId × Value → H}
theorem cells_line : Tryd.prog.cellsOf 86 = 2 := by kernel_rfl
theorem cells_slice : Tryd.prog.cellsOf 84 = 1 := by kernel_rfl
theorem cells_bool : Tryd.prog.cellsOf 4 = 1 := by kernel_rfl
theorem trod_line {w : World} {fuel : Nat} {cs : List Value} {x : DataW H × List MemPlace} {hd : Bool} (h : DataW.trod enc Tryd.prog w 0 (fun _ => true) hd fuel 86 cs = some x) : ∃ A c l s, cs = [.slice A l.length c, .bool s] ∧ RdC w A c l ∧ c ≤ maxLen := by
 obtain ⟨xs, n, _, _, hlen, hxl, hf⟩ := DataW.trod_struct Tryd.underlying86 h
 rw [cells_line] at hlen
 match cs, hlen, hf with
 | [c0, c1], _, hf =>
  have h0 : DataW.trod enc Tryd.prog w 0 (fun _ => true) hd n 84 (([c0, c1].drop 0).take (Tryd.prog.cellsOf 84)) = xs[0]? := hf 0 _ rfl
  have h1 : DataW.trod enc Tryd.prog w 0 (fun _ => true) hd n 4 (([c0, c1].drop 1).take (Tryd.prog.cellsOf 4)) = xs[1]? := hf 1 _ rfl
  obtain ⟨z0, e0⟩ := some_of (show (xs[0]?).isSome = true by simp [hxl])
  obtain ⟨z1, e1⟩ := some_of (show (xs[1]?).isSome = true by simp [hxl])
  simp only [cells_slice, cells_bool, List.drop_zero, List.drop_succ_cons, List.take_succ_cons, List.take_zero] at h0 h1
  obtain ⟨A, c, l, he, hr, hm⟩ := trod_cells (h0.trans e0)
  obtain ⟨b, hb, _⟩ := DataW.trod_bool Tryd.underlying4 (h1.trans e1)
  simp only [List.cons.injEq, and_true] at he hb
  subst he
  subst hb
  exact ⟨A, c, l, b, rfl, hr, hm⟩
end
end Go.Proofs.YtdndoikgnohkkaaDoor

set_option linter.constructorNameAsVariable false
set_option maxRecDepth 100000
namespace Go.Proofs.YtdndoikgnohkkaaDoor
open Go.ChangeShapes Go.WideShapes Go.ChangeAt Go.RowKit Go.Deep Go.WideElems

section
variable {H : Type} {enc : TypeId × Value → H}
theorem cells_cursor : Tryd.prog.cellsOf 23 = 3 := by kernel_rfl
theorem trod_cursor {w : World} {base : Nat} {sp : Nat → Bool} {fuel : Nat} {cs : List Value} {x : DataW H × List MemPlace} {hd : Bool} (h : DataW.trod enc Tryd.prog w base sp hd fuel 23 cs = some x) : ∃ r c b, cs = [.int .i64 r, .int .i64 c, .bool b] := by
 obtain ⟨xs, n, _, _, hlen, hxl, hf⟩ := DataW.trod_struct Tryd.underlying23 h
 rw [cells_cursor] at hlen
 match cs, hlen, hf with
 | [c0, c1, c2], _, hf =>
  have h0 : DataW.trod enc Tryd.prog w base sp hd n 3 (([c0, c1, c2].drop 0).take (Tryd.prog.cellsOf 3)) = xs[0]? := hf 0 _ rfl
  have h1 : DataW.trod enc Tryd.prog w base sp hd n 3 (([c0, c1, c2].drop 1).take (Tryd.prog.cellsOf 3)) = xs[1]? := hf 1 _ rfl
  have h2 : DataW.trod enc Tryd.prog w base sp hd n 4 (([c0, c1, c2].drop 2).take (Tryd.prog.cellsOf 4)) = xs[2]? := hf 2 _ rfl
  obtain ⟨z2, e2⟩ := some_of (show (xs[2]?).isSome = true by simp [hxl])
  simp only [cells_int, cells_bool, List.drop_zero, List.drop_succ_cons, List.take_succ_cons, List.take_zero] at h0 h1 h2
  obtain ⟨r, rfl⟩ := num_field Tryd.underlying3 (by simp [hxl]) h0
  obtain ⟨c, rfl⟩ := num_field Tryd.underlying3 (by simp [hxl]) h1
  obtain ⟨b, hb, _⟩ := DataW.trod_bool Tryd.underlying4 (h2.trans e2)
  simp only [List.cons.injEq, and_true] at hb
  subst hb
  exact ⟨r, c, b, rfl⟩
theorem trod_recs {V : Type} [Inhabited V] {Pr : V → Prop} {w : World} {fuel : Nat} {cs : List Value} {x : DataW H × List MemPlace} {hd : Bool} {tS tE : TypeId} {k : Nat} (av : V → Array Value) (hu : Tryd.prog.underlying tS = some (.slice tE)) (hk : Tryd.prog.cellsOf tE = k) (hk0 : 0 < k) (hav : ∀ a, (av a).size = k)
  (helem : ∀ (fuel : Nat) (cs' : List Value) (x' : DataW H × List MemPlace), DataW.trod enc Tryd.prog w 0 (fun _ => true) hd fuel tE cs' = some x' → ∃ a, cs' = (av a).toList ∧ Pr a)
  (h : DataW.trod enc Tryd.prog w 0 (fun _ => true) hd fuel tS cs = some x) : ∃ (A : Option Addr) (c : Nat) (l : List V), cs = [.slice A l.length c] ∧ RdRec w A c k (l.map av) ∧ c ≤ maxLen ∧ ∀ a ∈ l, Pr a := by
 rcases open_slice hu h with ⟨rfl, _⟩ | ⟨a, len, cap, m, n, D, Pl, rfl, _, hl, hm, hmm, _, hi⟩
 ·exact ⟨none, 0, [], rfl, ⟨by simp, fun _ => rfl, fun h => by simp at h⟩, by simp [maxLen], fun a ha => by simp at ha⟩
 ·simp only [if_true] at hmm
  subst hmm
  rw [hk] at hi
  have hall : ∀ i, i < len → ∃ c : V, Pr c ∧ ∀ j, j < k → w.cell? ((a.add (i * k)).add j) = (av c)[j]? := by
   intro i hlt
   obtain ⟨cs', hc, ht⟩ := hi i (by omega)
   obtain ⟨_, hcl, hat⟩ := World.cells?_some hc
   obtain ⟨c, rfl, hp⟩ := helem _ _ _ ht
   exact ⟨c, hp, fun j hj => by rw [hat j hj]; simp⟩
  have hl2 : ∃ l : List V, l.length = len ∧ (∀ i (h : i < l.length), ∀ j, j < k → w.cell? ((a.add (i * k)).add j) = (av l[i])[j]?) ∧ ∀ c ∈ l, Pr c := by
   refine ⟨(List.range len).map fun i => if h : i < len then (hall i h).choose else default, by simp, fun i h j hj => ?_, fun c hc => ?_⟩
   ·have hlt : i < len := by simpa using h
    simp only [List.getElem_map, List.getElem_range, hlt, dif_pos]
    exact (hall i hlt).choose_spec.2 j hj
   ·obtain ⟨i, hi2, rfl⟩ := List.mem_map.1 hc
    have hlt : i < len := by simpa using hi2
    rw [dif_pos hlt]
    exact (hall i hlt).choose_spec.1
  obtain ⟨l, rfl, hcell, hpr⟩ := hl2
  refine ⟨some a, m, l, rfl, ⟨by simpa using hl, (fun h => by cases h), fun hn => ?_⟩, hm, hpr⟩
  have hn' : 0 < l.length := by simpa using hn
  have h00 := hcell 0 hn' 0 hk0
  have hsz : 0 < (av l[0]).size := by rw [hav]; exact hk0
  rw [Nat.zero_mul, Addr.add_zero', Addr.add_zero', Array.getElem?_eq_getElem hsz] at h00
  obtain ⟨b, off, spot⟩ := a
  have hspot : spot = none := by
   cases spot with
   | none => rfl
   | some q => simp [World.cell?] at h00; split at h00 <;> simp at h00
  subst hspot
  refine ⟨b, off, rfl, block_lt_of_cell h00, fun i r hr => ?_⟩
  rw [List.getElem?_map] at hr
  cases hli : l[i]? with
  | none => rw [hli] at hr; cases hr
  | some y =>
   rw [hli] at hr
   simp only [Option.map_some, Option.some.injEq] at hr
   subst hr
   obtain ⟨hil, hy⟩ := List.getElem?_eq_some_iff.1 hli
   refine recAt_of (hav y) (fun j v hv => ?_)
   have hj : j < k := by have := (List.getElem?_eq_some_iff.1 hv).1; simp [hav] at this; exact this
   have := hcell i hil j hj
   rw [add_at, add_at] at this
   rw [this, hy]
   simpa using hv
theorem open_recs {V : Type} [Inhabited V] {Pr : V → Prop} {v : Value} {w : World} {r : Reach} {b0 : Nat} {hd : Bool} {d : DataW H} {p : List MemPlace} {tS tE : TypeId} {k : Nat} (av : V → Array Value) (hu : Tryd.prog.underlying tS = some (.slice tE)) (hk : Tryd.prog.cellsOf tE = k) (hk0 : 0 < k) (hav : ∀ a, (av a).size = k)
  (helem : ∀ (fuel : Nat) (cs' : List Value) (x' : DataW H × List MemPlace), DataW.trod enc Tryd.prog w 0 (fun _ => true) hd fuel tE cs' = some x' → ∃ a, cs' = (av a).toList ∧ Pr a)
  (hv : Value.okWide Tryd.prog w r b0 tS v) (h : DataW.Trod enc Tryd.prog w 0 (fun _ => true) hd tS v d p) : ∃ (A : Option Addr) (c : Nat) (l : List V), v = .slice A l.length c ∧ RdRec w A c k (l.map av) ∧ c ≤ maxLen ∧ ∀ a ∈ l, Pr a := by
 obtain ⟨a0, n, c, rfl⟩ := okWide_slice hu hv
 obtain ⟨fuel, hf⟩ := h
 obtain ⟨A, c', l, he, hr⟩ := trod_recs av hu hk hk0 hav helem hf
 exact ⟨A, c', l, by simpa [Value.cells] using he, hr⟩
end
end Go.Proofs.YtdndoikgnohkkaaDoor

set_option linter.constructorNameAsVariable false
set_option maxRecDepth 100000
namespace Go.Proofs.YtdndoikgnohkkaaDoor
open Go.ChangeShapes Go.WideShapes Go.ChangeAt Go.RowKit Go.Deep Go.WideElems

section
variable {H : Type} {enc : TypeId × Value → H}
end
end Go.Proofs.YtdndoikgnohkkaaDoor

set_option linter.constructorNameAsVariable false
set_option maxRecDepth 100000
namespace Go.Proofs.YtdndoikgnohkkaaDoor
open Go.ChangeShapes Go.WideShapes Go.ChangeAt Go.RowKit Go.Deep Go.WideElems

theorem list1 {α : Type} {n : Nat} {l : List α} (h : l.length = n + 1) : ∃ a r, l = a :: r ∧ r.length = n := by cases l with | nil => simp at h | cons a r => exact ⟨a, r, rfl, by simpa using h⟩
instance : Inhabited Act14 := ⟨⟨0, 0, 0, 0, 0, cell0, none, 0, [], false, pen0⟩⟩
section
variable {H : Type} {enc : TypeId × Value → H}
theorem cells_cell14 : Tryd.prog.cellsOf 61 = 16 := by kernel_rfl
end
structure ALine where
 A : Option Addr
 c : Nat
 cs : List Cell
 s : Bool
instance : Inhabited ALine := ⟨⟨none, 0, [], false⟩⟩
def alv (a : ALine) : Array Value := #[.slice a.A a.cs.length a.c, .bool a.s]
theorem alv_size (a : ALine) : (alv a).size = 2 := rfl
theorem rdl_of {w : World} {A : Option Addr} {c : Nat} {l : List ALine} (h : RdRec w A c 2 (l.map alv)) (hp : ∀ a ∈ l, RdC w a.A a.c a.cs ∧ a.c ≤ maxLen) : RdL w A c (l.map fun a => (a.cs, a.s)) := by
 refine ⟨by simpa using h.1, h.2.1, fun hn => ?_⟩
 obtain ⟨b, off, rfl, hz, hr⟩ := h.2.2 (by simpa using hn)
 refine ⟨b, off, rfl, hz, fun i x hx => ?_⟩
 rw [List.getElem?_map] at hx
 cases hi : l[i]? with
 | none => rw [hi] at hx; cases hx
 | some a =>
  rw [hi] at hx
  simp only [Option.map_some, Option.some.injEq] at hx
  subst hx
  have hg := range_of_recAt (hr i (alv a) (by simp [hi]))
  refine ⟨a.A, a.c, ?_, ?_, (hp a (List.mem_of_getElem? hi)).1⟩
  ·have := hg.2 0 _ rfl; simpa using this
  ·have := hg.2 1 _ rfl; simpa using this
section
variable {H : Type} {enc : TypeId × Value → H}
end
end Go.Proofs.YtdndoikgnohkkaaDoor

set_option linter.constructorNameAsVariable false
set_option maxRecDepth 100000
namespace Go.Proofs.YtdndoikgnohkkaaDoor
open Go.ChangeShapes Go.WideShapes Go.ChangeAt Go.RowKit Go.Deep Go.WideElems

instance : Inhabited Saved := ⟨saved0⟩
section
variable {H : Type} {enc : TypeId × Value → H}
theorem cells_chk : Tryd.prog.cellsOf 30 = 1 := by kernel_rfl
theorem cells_arrCh : Tryd.prog.cellsOf 31 = 2 := by kernel_rfl
theorem cells_charsets : Tryd.prog.cellsOf 33 = 3 := by kernel_rfl
theorem cells_saved : Tryd.prog.cellsOf 35 = 18 := by kernel_rfl
theorem trod_arrCh {w : World} {base : Nat} {sp : Nat → Bool} {fuel : Nat} {cs : List Value} {x : DataW H × List MemPlace} {hd : Bool} (h : DataW.trod enc Tryd.prog w base sp hd fuel 31 cs = some x) : ∃ a b, cs = [.int .i64 a, .int .i64 b] := by
 obtain ⟨xs, n, _, _, hlen, hxl, hf⟩ := DataW.trod_array Tryd.underlying31 h
 rw [cells_arrCh] at hlen
 match cs, hlen with
 | [c0, c1], _ =>
  have h0 := hf 0 (by omega)
  have h1 := hf 1 (by omega)
  simp only [cells_chk, Nat.zero_mul, Nat.one_mul, Nat.mul_one, List.drop_zero, List.drop_succ_cons, List.take_succ_cons, List.take_zero] at h0 h1
  obtain ⟨a, rfl⟩ := num_field Tryd.underlying30 (by simp [hxl]) h0
  obtain ⟨b, rfl⟩ := num_field Tryd.underlying30 (by simp [hxl]) h1
  exact ⟨a, b, rfl⟩
theorem trod_charsets {w : World} {base : Nat} {sp : Nat → Bool} {fuel : Nat} {cs : List Value} {x : DataW H × List MemPlace} {hd : Bool} (h : DataW.trod enc Tryd.prog w base sp hd fuel 33 cs = some x) : ∃ a b c, cs = [.int .i64 a, .int .i64 b, .int .i64 c] := by
 obtain ⟨xs, n, _, _, hlen, hxl, hf⟩ := DataW.trod_struct Tryd.underlying33 h
 rw [cells_charsets] at hlen
 match cs, hlen, hf with
 | [c0, c1, c2], _, hf =>
  have h0 : DataW.trod enc Tryd.prog w base sp hd n 31 (([c0, c1, c2].drop 0).take (Tryd.prog.cellsOf 31)) = xs[0]? := hf 0 _ rfl
  have h1 : DataW.trod enc Tryd.prog w base sp hd n 3 (([c0, c1, c2].drop 2).take (Tryd.prog.cellsOf 3)) = xs[1]? := hf 1 _ rfl
  obtain ⟨z0, e0⟩ := some_of (show (xs[0]?).isSome = true by simp [hxl])
  simp only [cells_int, cells_arrCh, List.drop_zero, List.drop_succ_cons, List.take_succ_cons, List.take_zero] at h0 h1
  obtain ⟨a, b, hab⟩ := trod_arrCh (h0.trans e0)
  obtain ⟨c, rfl⟩ := num_field Tryd.underlying3 (by simp [hxl]) h1
  simp only [List.cons.injEq, and_true] at hab
  obtain ⟨rfl, rfl⟩ := hab
  exact ⟨a, b, c, rfl⟩
theorem trod_saved {w : World} {base : Nat} {sp : Nat → Bool} {fuel : Nat} {cs : List Value} {x : DataW H × List MemPlace} {hd : Bool} (h : DataW.trod enc Tryd.prog w base sp hd fuel 35 cs = some x) : ∃ s : Saved, cs = (sv s).toList := by
 obtain ⟨xs, n, _, _, hlen, hxl, hf⟩ := DataW.trod_struct Tryd.underlying35 h
 rw [cells_saved] at hlen
 have h0 : DataW.trod enc Tryd.prog w base sp hd n 23 ((cs.drop 0).take (Tryd.prog.cellsOf 23)) = xs[0]? := hf 0 _ rfl
 have h1 : DataW.trod enc Tryd.prog w base sp hd n 29 ((cs.drop 3).take (Tryd.prog.cellsOf 29)) = xs[1]? := hf 1 _ rfl
 have h2 : DataW.trod enc Tryd.prog w base sp hd n 4 ((cs.drop 14).take (Tryd.prog.cellsOf 4)) = xs[2]? := hf 2 _ rfl
 have h3 : DataW.trod enc Tryd.prog w base sp hd n 33 ((cs.drop 15).take (Tryd.prog.cellsOf 33)) = xs[3]? := hf 3 _ rfl
 obtain ⟨z0, e0⟩ := some_of (show (xs[0]?).isSome = true by simp [hxl])
 obtain ⟨z1, e1⟩ := some_of (show (xs[1]?).isSome = true by simp [hxl])
 obtain ⟨z2, e2⟩ := some_of (show (xs[2]?).isSome = true by simp [hxl])
 obtain ⟨z3, e3⟩ := some_of (show (xs[3]?).isSome = true by simp [hxl])
 simp only [cells_cursor, cells_pen, cells_bool, cells_charsets] at h0 h1 h2 h3
 obtain ⟨ro, co, pe, hc⟩ := trod_cursor (h0.trans e0)
 obtain ⟨q, hq⟩ := trod_pen (h1.trans e1)
 obtain ⟨bo, hb, _⟩ := DataW.trod_bool Tryd.underlying4 (h2.trans e2)
 obtain ⟨sa, sb, ac, hs⟩ := trod_charsets (h3.trans e3)
 match cs, hlen with
 | [c0, c1, c2, c3, c4, c5, c6, c7, c8, c9, c10, c11, c12, c13, c14, c15, c16, c17], _ =>
  simp only [List.drop_zero, List.drop_succ_cons, List.take_succ_cons, List.take_zero] at hc hq hb hs
  simp only [List.cons.injEq, and_true] at hc hb hs
  obtain ⟨rfl, rfl, rfl⟩ := hc
  subst hb
  obtain ⟨rfl, rfl, rfl⟩ := hs
  simp only [pv, List.cons.injEq, and_true] at hq
  obtain ⟨rfl, rfl, rfl, rfl, rfl, rfl, rfl, rfl, rfl, rfl, rfl⟩ := hq
  exact ⟨⟨ro, co, pe, q, bo, sa, sb, ac⟩, rfl⟩
end
end Go.Proofs.YtdndoikgnohkkaaDoor

namespace Go.Proofs.YtdndoikgnohkkaaDoor
open Go.RowKit

@[go_sem] theorem fill_keep (a n : Int) (s : Saved) : Array.foldl (fun cs x => cs.setIfInBounds (20 + x.snd) x.fst) (#[.int .i64 a, .int .i64 n, .int .i64 0, .int .i64 0, .int .i32 0, .int .i32 0, .int .i32 0, .int .i32 0, .int .i64 0, .int .i64 0, .int .u8 0, .int .u8 0, .int .u8 0, .int .u8 0, .int .i64 0, .int .u8 0, .int .u8 0, .int .u8 0, .int .u8 0, .int .u8 0, .int .i64 0, .int .i64 0, .bool false, .int .i64 0, .int .u8 0, .int .u8 0, .int .u8 0, .int .u8 0, .int .i64 0, .int .u8 0, .int .u8 0, .int .u8 0, .int .u8 0, .int .u8 0, .bool false, .int .i64 0, .int .i64 0, .int .i64 0, .int .i64 0, .int .u8 0, .int .u8 0, .int .u8 0, .int .u8 0, .int .i64 0, .int .u8 0, .int .u8 0, .int .u8 0, .int .u8 0, .int .u8 0, .slice none 0 0] : Array Value) (sv s).zipIdx 0 18 = av24 ⟨a, n, 0, 0, cell0, s, pen0, none, 0, []⟩ := by
 simp [sv, av24, Array.zipIdx, cell0, pen0]
theorem entS_good {s : Pr} {rr : Nat} {n : Int} {x : Saved} {q : Pen} (h : s.good rr) : (entS n x q s).good rr := by
 unfold entS
 split
 ·rename_i he
  refine entN_good h (fun hn => ?_)
  unfold entE at he
  split at he
  ·cases he
  ·rename_i h1
   exact ((Classical.not_not.1 h1).2 hn).2
 ·exact h
theorem lvSt_good {s : Pr} {rr : Nat} {n : Int} {q : Pen} (h : s.good rr) : (lvSt n q s).good rr := by
 unfold lvSt
 split
 ·rename_i he
  refine lvN_good h (fun hn => ?_)
  unfold lvE at he
  split at he
  ·cases he
  ·rename_i h1
   exact (Classical.not_not.1 h1).2 hn
 ·exact h
end Go.Proofs.YtdndoikgnohkkaaDoor

namespace Go.Proofs.YtdndoikgnohkkaaDoor
open Go.RowKit

def softE (n : Int) (R : Nat) : Int := if here14 n R = true then 0 else 3
def softR24 (n : Int) (L : List Ln) : List Ln := if here14 n L.length = true then softMod n.toNat true L else L
theorem softR24_k24 {n : Int} {cols rr : Nat} {L : List Ln} (h : K24 cols rr L) : K24 cols rr (softR24 n L) := by
 unfold softR24
 split
 ·exact ⟨h.1.softMod _ _, by rw [softMod_length]; exact h.2.1, h.2.2.softMod _ _⟩
 ·exact h
section
variable {rr : Nat} {s : Pr} {y : Saved}
end
structure Of24 (a : Act24) : Prop where
 n1 : 1 ≤ a.n
 n2 : a.n ≤ 1000
 l1 : 1 ≤ a.L.length
 ok : ∀ l ∈ a.L, lineOk l.1 = true
def ofL24 (a : Act24) : List Ln := a.L.map fun l => (fitTo a.n.toNat l.1, l.2)
theorem ofL24_k {a : Act24} (h : Of24 a) : K24 a.n.toNat a.L.length (ofL24 a) := by
 refine ⟨fun l hl => ?_, by simp [ofL24], fun l hl => ?_⟩
 ·obtain ⟨l', -, rfl⟩ := List.mem_map.1 hl
  exact fitTo_length _ _
 ·obtain ⟨l', hl', rfl⟩ := List.mem_map.1 hl
  exact rowOk_is.1 (fit_row _ (ok_row (h.ok l' hl')))
theorem Of24.c0 {a : Act24} (h : Of24 a) : 0 < a.n.toNat := by have := h.n1; omega
theorem Of24.r0 {a : Act24} (h : Of24 a) : 0 < a.L.length := h.l1
theorem Of24.cm {a : Act24} (h : Of24 a) : a.n.toNat ≤ 1000 := by have := h.n2; omega
section
variable {w0 w : World} {os : List Ob} {p : Nat} {s : Pr}
theorem gridOf_yes24 {a : Act24} (hT : Tabs w0) (hS : Objs w0 w os) (hok : Ok24 w0 a) (hf : Few24 a) (h : Of24 a) : Calls Tryd.prog 24 #[.int .i64 a.n, .slice a.A a.L.length a.c] w fun e w' => ∃ g, e = .returned (.tuple #[.pointer (some ⟨g, 0, none⟩), .int .i64 0]) ∧ Objs w0 w' (.grid g 83 a.n.toNat (ofL24 a) :: os) := by
 have hn : a.n = (a.n.toNat : Int) := by have := h.n1; omega
 have hcon := gridOf_yes a.A a.c a.L a.n.toNat w (hS.tabs hT) (hok.1.bel hS.base) h.c0 h.cm h.l1 (by have := hf.1; omega) (fun l hl => by have := hf.2 l hl; omega) h.ok
 rw [show (Value.int .i64 a.n) = .int .i64 ((a.n.toNat : Nat) : Int) by rw [← hn]]
 exact hcon.mono fun e w' ⟨g, h1, h2⟩ => ⟨g, h1, hS.nest h2⟩
theorem gridOf_no24 {a : Act24} (hT : Tabs w0) (hS : Objs w0 w os) (hok : Ok24 w0 a) (hf : Few24 a) (h : ¬ Of24 a) : Calls Tryd.prog 24 #[.int .i64 a.n, .slice a.A a.L.length a.c] w fun e w' => e = .returned (.tuple #[.pointer none, .int .i64 2]) ∧ Objs w0 w' os := by
 by_cases ha : a.L.length < 1 ∨ 1000 < a.L.length ∨ a.n < 1 ∨ 1000 < a.n
 ·exact (gridOf_arg a.A a.c a.L.length a.n w (by have := hf.1; omega) ha).mono fun e w' ⟨h1, h2⟩ => ⟨h1, h2 ▸ hS⟩
 ·have hn : a.n = (a.n.toNat : Int) := by omega
  have hcon := gridOf_bad a.A a.c a.L a.n.toNat w (hS.tabs hT) (hok.1.bel hS.base) (by omega) (by omega) (by omega) (by omega) (fun l hl => by have := hf.2 l hl; omega) (by
   refine Classical.byContradiction fun hno => h ⟨by omega, by omega, by omega, fun l hl => ?_⟩
   cases hv : lineOk l.1
   ·exact absurd ⟨l, hl, hv⟩ hno
   ·rfl)
  rw [← hn] at hcon
  exact hcon.mono fun e w' ⟨h1, h2⟩ => ⟨h1, hS.bel h2⟩
theorem Enter_is {rr : Nat} (n : Int) (x : Saved) (q : Pen) (hT : Tabs w0) (hS : Objs w0 w (pairO p s :: os)) (hg : s.good rr) :
  Calls Tryd.prog 9 #[.pointer (some ⟨p, 0, none⟩), .int .i64 n, .agg (sv x), .agg (pv q)] w fun e w' => e = .returned (.int .i64 (entE n x q s)) ∧ Objs w0 w' (pairO p (entS n x q s) :: os) := by
 unfold entS
 by_cases h : entE n x q s = 0
 ·rw [if_pos h, h]; exact Enter_yes n x q hT hS hg h
 ·rw [if_neg h]; exact Enter_no n x q hT hS h
theorem soft24_any {g cols rr : Nat} {L : List Ln} (n : Int) (hS : Objs w0 w (.grid g 83 cols L :: os)) (hc : 0 < cols) (hL : L.length = rr) (hr : rr ≤ 1000) :
  Calls Tryd.prog 26 #[.pointer (some ⟨g, 0, none⟩), .int .i64 n, .bool true] w fun e w' => e = .returned (.int .i64 (softE n L.length)) ∧ Objs w0 w' (.grid g 83 cols (softR24 n L) :: os) := by
 unfold softR24 softE
 by_cases h : here14 n L.length = true
 ·rw [if_pos h, if_pos h]
  obtain ⟨i, rfl, hi⟩ := here14_nat h
  exact SetSoftG true hS (k := 0) rfl hc hi (by omega)
 ·rw [if_neg h, if_neg h]
  exact SetSoftN true hS (k := 0) rfl hc (by simpa using h)
end
end Go.Proofs.YtdndoikgnohkkaaDoor

namespace Go.Proofs.YtdndoikgnohkkaaDoor
open Go.RowKit

theorem Objs.softAt24 {w0 w : World} {os : List Ob} {k i : Nat} {v : Value} {L : List Ln} {l : Ln} (hS : Objs w0 w os) (hk : os[k]? = some (.lines v L)) (hl : L[i]? = some l) : ∃ g c, v = .slice (some ⟨g, 0, none⟩) L.length c ∧ g < w.heap.size ∧ w.cell? ⟨g, i * 2 + 1, none⟩ = some (.bool l.2) ∧ ∀ j, w.frozen? ⟨g, j, none⟩ = false := by
 obtain ⟨F, bs, hF, -⟩ := hS.get hk
 obtain ⟨A2, c2, rfl, -, -, -, h4⟩ := hF.form
 obtain ⟨g, rfl, hz, -, hso, hfz⟩ := h4 (by have := (List.getElem?_eq_some_iff.1 hl).1; omega)
 exact ⟨g, c2, rfl, hz, hso i l hl, hfz⟩
section
variable {w0 w : World} {os : List Ob} {p x : Nat} {s : Pr}
theorem softFnD {a1 : Act24} {g b cols rr : Nat} {L : List Ln} {zs : List Ob} {x0 : Ob} (h : Objs w0 w (.grid g 83 cols L :: (zs ++ x0 :: .box b 66 (av24 a1) :: os))) (hc : 0 < cols) (hL : L.length = rr) (hr : rr ≤ 1000) :
  Calls Tryd.prog 61 (#[] ++ #[.pointer (some ⟨g, 0, none⟩)] ++ #[.pointer (some ⟨b, 0, none⟩)]) w fun e w' => e = .returned (.int .i64 77) ∧ Objs w0 w' (.grid g 83 cols (softR24 a1.n L) :: (zs ++ x0 :: .box b 66 (av24 a1) :: os)) := by
 show Calls Tryd.prog 61 #[.pointer (some ⟨g, 0, none⟩), .pointer (some ⟨b, 0, none⟩)] w _
 have S := Lib.hid h
 have hk : (.grid g 83 cols L :: (zs ++ x0 :: .box b 66 (av24 a1) :: os))[zs.length + 2]? = some (.box b 66 (av24 a1)) := by simp
 obtain ⟨hx12, hf12, hz12, hr12, hp12, hs12, hq12⟩ := (S.out.box hk).act24
 have HL := Lib.hid hL
 clear h hk hL
 go_enter Tryd.func61, Tryd.ntmps61
 go_wp2_with fail
 refine (soft24_any a1.n S.out hc HL.out hr).mono ?_
 rintro e w1 ⟨rfl, hS⟩
 have S1 := Lib.hid hS
 clear hS
 go_wp2_with fail
 go_ret
 exact ⟨rfl, S1.out⟩
set_option maxRecDepth 100000 in
set_option maxHeartbeats 32000000 in
theorem does24_soft {rr : Nat} (a1 : Act24) (hw : a1.what = 4) (hS : Objs w0 w (pairO p s :: refO x s :: os)) (hg : s.good rr) :
  Calls Tryd.prog 32 #[.pointer (some ⟨p, 0, none⟩), .pointer (some ⟨x, 0, none⟩), .agg (av24 a1)] w fun e w' => e = .returned (.bool true) ∧ Objs w0 w' (pairO p (s.setU (softR24 a1.n s.U)) :: refO x (s.setU (softR24 a1.n s.U)) :: os) := by
 have S := Lib.hid hS
 have HG := Lib.hid hg
 clear hS hg
 have b0 := beq_no (show ¬ a1.what = 0 by omega)
 have b1 := beq_no (show ¬ a1.what = 1 by omega)
 have b2 := beq_no (show ¬ a1.what = 2 by omega)
 have b3 := beq_no (show ¬ a1.what = 3 by omega)
 have b4 := beq_yes hw
 clear hw
 go_enter Tryd.func32, Tryd.ntmps32
 go_upto_region 1 with (fail)
 refine at_objsC (S.out.alloc1 (c1 := av24 a1) (t1 := 66)) (fun W hW => ?_)
 generalize w.heap.size = b5 at hW ⊢
 obtain ⟨m, o, ug, y, hu, hW2, hclose⟩ := Objs.openUsed (Objs.pick (σ := [_, _, _]) (os := os) hW [some 2, some 0, some 1] (by decide) rfl)
 have HU := Lib.hid hu
 have HCL := Lib.hid hclose
 have S1 := Lib.hid (show Objs w0 W (.box b5 66 (av24 a1) :: .box x 103 (rpv m o s.mode (s.kept.getD saved0) s.kept.isSome) :: .grid ug 106 s.cols s.U :: y :: pairO p s :: os) from Objs.pick (σ := [_, _, _, _, _]) (os := os) hW2 [some 3, some 0, some 1, some 2, some 4] (by decide) rfl)
 clear hW hW2 S hu hclose
 obtain ⟨hx5, hf5, hz5, hr5, hp5, hs5, hq5⟩ := (S1.out.box (k := 0) rfl).act24
 go_wp2_with fail
 refine (used_is HU.out S1.out (k := 1) rfl).mono ?_
 rintro e w1 ⟨rfl, hS⟩
 clear hx5 hf5 hz5 hr5 hp5 hs5 hq5
 have S2 := Lib.hid hS
 clear hS S1
 have hcas : a1.n < 0 ∨ (0 ≤ a1.n ∧ (s.U.length : Int) ≤ a1.n) ∨ (0 ≤ a1.n ∧ a1.n < (s.U.length : Int)) := by omega
 rcases hcas with h | ⟨h0, h⟩ | ⟨h0, h1⟩
 ·as_aux_lemma =>
   have d1 : decide (0 ≤ a1.n) = false := decide_eq_false (by omega)
   have HN := Lib.hid (show softR24 a1.n s.U = s.U from if_neg (fun g => by have g1 := of_decide_eq_true (show decide (0 ≤ a1.n ∧ a1.n < (s.U.length : Int)) = true from g); omega))
   obtain ⟨hx5, hf5, hz5, hr5, hp5, hs5, hq5⟩ := (S2.out.box (k := 0) rfl).act24
   obtain ⟨Ax, cx, hBx, -, -⟩ := S2.out.gridRd (k := 2) rfl
   obtain ⟨hxx, hfx, hzx⟩ := hBx.facts
   clear hBx
   go_upto_region 50 with (fail)
   refine wp_region_below (by kernel_rfl) (by kernel_rfl) ?_
   repeat (go_big_quiet_step (fail))
   refine wpQuiet_nil ?_
   intro w2 hb2
   have S3 := Lib.hid (S2.out.bel hb2)
   clear hb2 S2
   clear hx5 hf5 hz5 hr5 hp5 hs5 hq5
   clear hxx hfx hzx
   have S5 := Lib.hid (show Objs w0 _ (.box b5 66 (av24 a1) :: .box x 103 (rpv m o s.mode (s.kept.getD saved0) s.kept.isSome) :: .grid ug 106 s.cols (softR24 a1.n s.U) :: y :: pairO p s :: os) from by rw [HN.out]; exact S3.out)
   clear S3
   have hS2 := HCL.out _ _ _ (Objs.pick (σ := [_, _, _, _, _]) (os := os) S5.out [some 1, some 2, some 3, some 0, some 4] (by decide) rfl)
   have S6 := Lib.hid (show Objs w0 _ (pairO p s :: refO x (s.setU (softR24 a1.n s.U)) :: .box b5 66 (av24 a1) :: os) from Objs.pick (σ := [_, _, _]) (os := os) hS2 [some 2, some 0, some 1] (by decide) rfl)
   clear hS2 S5
   go_wp2_with fail
   refine (Do_front (f := 61) (first := #[]) (cap := #[.pointer (some ⟨b5, 0, none⟩)]) (re := 77) (L2 := softR24 a1.n s.U) (os := refO x (s.setU (softR24 a1.n s.U)) :: .box b5 66 (av24 a1) :: os) (fun _ _ => by kernel_rfl) S6.out (fun W g zs h => softFnD h HG.out.c0 HG.out.U.2.1 HG.out.rm)).mono ?_
   rintro e w6 ⟨rfl, hS⟩
   have S7 := Lib.hid hS
   clear hS S6
   go_wp2_with fail
   go_ret
   exact ⟨rfl, Objs.tail (Objs.pick (σ := [_, _, _]) (os := os) S7.out [some 2, some 0, some 1] (by decide) rfl)⟩
 ·as_aux_lemma =>
   have d1 : decide (0 ≤ a1.n) = true := decide_eq_true h0
   have d2 : decide (a1.n < (s.U.length : Int)) = false := decide_eq_false (by omega)
   have HN := Lib.hid (show softR24 a1.n s.U = s.U from if_neg (fun g => by have g1 := of_decide_eq_true (show decide (0 ≤ a1.n ∧ a1.n < (s.U.length : Int)) = true from g); omega))
   obtain ⟨hx5, hf5, hz5, hr5, hp5, hs5, hq5⟩ := (S2.out.box (k := 0) rfl).act24
   obtain ⟨Ax, cx, hBx, -, -⟩ := S2.out.gridRd (k := 2) rfl
   obtain ⟨hxx, hfx, hzx⟩ := hBx.facts
   clear hBx
   go_upto_region 50 with (fail)
   refine wp_region_below (by kernel_rfl) (by kernel_rfl) ?_
   repeat (go_big_quiet_step (fail))
   refine wpQuiet_nil ?_
   intro w2 hb2
   have S3 := Lib.hid (S2.out.bel hb2)
   clear hb2 S2
   clear hx5 hf5 hz5 hr5 hp5 hs5 hq5
   clear hxx hfx hzx
   have S5 := Lib.hid (show Objs w0 _ (.box b5 66 (av24 a1) :: .box x 103 (rpv m o s.mode (s.kept.getD saved0) s.kept.isSome) :: .grid ug 106 s.cols (softR24 a1.n s.U) :: y :: pairO p s :: os) from by rw [HN.out]; exact S3.out)
   clear S3
   have hS2 := HCL.out _ _ _ (Objs.pick (σ := [_, _, _, _, _]) (os := os) S5.out [some 1, some 2, some 3, some 0, some 4] (by decide) rfl)
   have S6 := Lib.hid (show Objs w0 _ (pairO p s :: refO x (s.setU (softR24 a1.n s.U)) :: .box b5 66 (av24 a1) :: os) from Objs.pick (σ := [_, _, _]) (os := os) hS2 [some 2, some 0, some 1] (by decide) rfl)
   clear hS2 S5
   go_wp2_with fail
   refine (Do_front (f := 61) (first := #[]) (cap := #[.pointer (some ⟨b5, 0, none⟩)]) (re := 77) (L2 := softR24 a1.n s.U) (os := refO x (s.setU (softR24 a1.n s.U)) :: .box b5 66 (av24 a1) :: os) (fun _ _ => by kernel_rfl) S6.out (fun W g zs h => softFnD h HG.out.c0 HG.out.U.2.1 HG.out.rm)).mono ?_
   rintro e w6 ⟨rfl, hS⟩
   have S7 := Lib.hid hS
   clear hS S6
   go_wp2_with fail
   go_ret
   exact ⟨rfl, Objs.tail (Objs.pick (σ := [_, _, _]) (os := os) S7.out [some 2, some 0, some 1] (by decide) rfl)⟩
 ·as_aux_lemma =>
   obtain ⟨i, hi, hil⟩ : ∃ i : Nat, a1.n = i ∧ i < s.U.length := ⟨a1.n.toNat, by omega, by omega⟩
   have d1 : decide (0 ≤ a1.n) = true := decide_eq_true h0
   have d2 : decide (a1.n < (s.U.length : Int)) = true := decide_eq_true h1
   obtain ⟨l, hl⟩ := get_of hil
   have HL := Lib.hid hl
   have HI := Lib.hid hi
   have HN := Lib.hid (show softR24 a1.n s.U = s.U.set i (l.1, true) by
    unfold softR24
    rw [if_pos (show here14 a1.n s.U.length = true from decide_eq_true ⟨h0, h1⟩), hi]
    exact softMod_some hl)
   clear hl hi
   obtain ⟨hx5, hf5, hz5, hr5, hp5, hs5, hq5⟩ := (S2.out.box (k := 0) rfl).act24
   obtain ⟨Ax, cx, hBx, -, -⟩ := S2.out.gridRd (k := 2) rfl
   obtain ⟨hxx, hfx, hzx⟩ := hBx.facts
   clear hBx
   go_upto_region 50 with (fail)
   refine wp_region_below (by kernel_rfl) (by kernel_rfl) ?_
   repeat (go_big_quiet_step (fail))
   refine wpQuiet_nil ?_
   intro w2 hb2
   have S3 := Lib.hid (S2.out.bel hb2)
   clear hb2 S2
   clear hx5 hf5 hz5 hr5 hp5 hs5 hq5
   clear hxx hfx hzx
   have hb0 : (0 : Int) ≤ (i : Int) := by omega
   have hb1 : (i : Int) < (s.U.length : Int) := by omega
   go_upto_region 51 with (fail)
   refine at_objsC S3.out (fun W3 hW => ?_)
   obtain ⟨v, hO⟩ := hW.openGrid (k := 2) rfl
   obtain ⟨gx, cx, rfl, -, -, -⟩ := hO.softAt24 (k := 0) rfl HL.out
   have SO := Lib.hid (show Objs w0 W3 (.lines (.slice (some ⟨gx, 0, none⟩) s.U.length cx) s.U :: .box b5 66 (av24 a1) :: .box x 103 (rpv m o s.mode (s.kept.getD saved0) s.kept.isSome) :: .box ug 106 #[.int .i64 ↑s.cols, .slice (some ⟨gx, 0, none⟩) s.U.length cx] :: y :: pairO p s :: os) from hO)
   clear hW hO S3
   refine wp_region_stage (w0 := w0) (os := os) (by kernel_rfl) (by kernel_rfl) (by kernel_rfl) [(0, 8, [], fun vs => .lines (.slice (some ⟨gx, 0, none⟩) s.U.length cx) (s.U.set i (l.1, true)))] [[], [], [], [3], [], [1], [], [], [0]] [.lines (.slice (some ⟨gx, 0, none⟩) s.U.length cx) s.U, .box b5 66 (av24 a1), .box x 103 (rpv m o s.mode (s.kept.getD saved0) s.kept.isSome), .box ug 106 #[.int .i64 ↑s.cols, .slice (some ⟨gx, 0, none⟩) s.U.length cx], y, pairO p s] (fun opn u => match opn with | 0 => u = .pointer (some ⟨ug, 0, none⟩) | 1 => u = .pointer (some ⟨ug, 0, none⟩) | 2 => u = .pointer (some ⟨ug, 1, none⟩) | 3 => u = .slice (some ⟨gx, 0, none⟩) s.U.length cx | 4 => u = .pointer (some ⟨b5, 1, none⟩) | 5 => u = .int .i64 ↑i | 6 => u = .pointer (some ⟨gx, i * 2, none⟩) | 7 => u = .pointer (some ⟨gx, i * 2 + 1, none⟩) | 8 => True | _ => True) (fun vs => [.lines (.slice (some ⟨gx, 0, none⟩) s.U.length cx) (s.U.set i (l.1, true)), .box b5 66 (av24 a1), .box x 103 (rpv m o s.mode (s.kept.getD saved0) s.kept.isSome), .box ug 106 #[.int .i64 ↑s.cols, .slice (some ⟨gx, 0, none⟩) s.U.length cx], y, pairO p s]) (by kernel_rfl) (fun vs => by rfl) SO.out ?_ ?_
   ·apply sc
    ·intro a w' vs σ hS hl hs hk
     have f19 : a.tmps[19]?.getD undef = .pointer (some ⟨ug, 0, none⟩) := sof hk
     exact rp (pt ug 0) (by simp [execOp, Act.eval, f19, go_sem]) hl hs hS
    apply sc
    ·intro a w' vs σ hS hl hs hk
     have f336 : a.tmps[336]?.getD undef = .pointer (some ⟨ug, 0, none⟩) := svf hk 0
     exact rp (pt ug 0) (by simp [execOp, Act.eval, f336, go_sem]) hl hs hS
    apply sc
    ·intro a w' vs σ hS hl hs hk
     have f337 : a.tmps[337]?.getD undef = .pointer (some ⟨ug, 0, none⟩) := svf hk 1
     exact rp (pt ug 1) (by simp [execOp, Act.eval, f337, go_sem]) hl hs hS
    apply sc
    ·intro a w' vs σ hS hl hs hk
     have f338 : a.tmps[338]?.getD undef = .pointer (some ⟨ug, 1, none⟩) := svf hk 2
     have hx := (hS.box (sg (hs 3 (by decide)))).cell
     exact rp (.slice (some ⟨gx, 0, none⟩) s.U.length cx) (by simp [execOp, Act.eval, f338, go_sem, hx]) hl hs hS
    apply sc
    ·intro a w' vs σ hS hl hs hk
     have f5 : a.tmps[5]?.getD undef = .pointer (some ⟨b5, 0, none⟩) := sof hk
     exact rp (pt b5 1) (by simp [execOp, Act.eval, f5, go_sem]) hl hs hS
    apply sc
    ·intro a w' vs σ hS hl hs hk
     have f340 : a.tmps[340]?.getD undef = .pointer (some ⟨b5, 1, none⟩) := svf hk 4
     have hx := ((hS.box (sg (hs 1 (by decide)))).cell 1).trans (show (av24 a1)[1]? = some (.int .i64 (i : Int) : Value) by rw [← HI.out]; rfl)
     exact rp (.int .i64 ↑i) (by simp [execOp, Act.eval, f340, go_sem, hx]) hl hs hS
    apply sc
    ·intro a w' vs σ hS hl hs hk
     have f339 : a.tmps[339]?.getD undef = .slice (some ⟨gx, 0, none⟩) s.U.length cx := svf hk 3
     have f341 : a.tmps[341]?.getD undef = .int .i64 ↑i := svf hk 5
     exact rp (pt gx (i * 2)) (by simp [execOp, Act.eval, f339, f341, go_sem, hb0, hb1]) hl hs hS
    apply sc
    ·intro a w' vs σ hS hl hs hk
     have f342 : a.tmps[342]?.getD undef = .pointer (some ⟨gx, i * 2, none⟩) := svf hk 6
     exact rp (pt gx (i * 2 + 1)) (by simp [execOp, Act.eval, f342, go_sem]) hl hs hS
    apply sc
    ·intro a w' vs σ hS hl hs hk
     have f343 : a.tmps[343]?.getD undef = .pointer (some ⟨gx, i * 2 + 1, none⟩) := svf hk 7
     have h1 : σ[0]? = some (.lines (.slice (some ⟨gx, 0, none⟩) s.U.length cx) s.U) := hs 0 (by decide)
     obtain ⟨g', c', e', hz, hc1, hf⟩ := hS.softAt24 (sg h1) HL.out
     simp only [Value.slice.injEq, Option.some.injEq, Addr.mk.injEq, and_true, true_and] at e'
     obtain ⟨rfl, -⟩ := e'
     exact rstep_store (w2 := w'.setCell ⟨gx, i * 2 + 1, none⟩ (.bool true)) (wanted_none rfl) rfl (by simp [execOp, Act.eval, f343, hf, hz, hc1, go_sem]) (sp_set 0 (.lines (.slice (some ⟨gx, 0, none⟩) s.U.length cx) (s.U.set i (l.1, true))) (by kernel_rfl) (by simp) (by decide) hl hs (by rfl) (hS.storeSoft (sg h1) HL.out) trivial) trivial
    exact SSteps.nil
   ·intro vs w' hS hv
    have q0 : vs 0 = _ := hv 0 (by decide)
    have q1 : vs 1 = _ := hv 1 (by decide)
    have q2 : vs 2 = _ := hv 2 (by decide)
    have q3 : vs 3 = _ := hv 3 (by decide)
    have q4 : vs 4 = _ := hv 4 (by decide)
    have q5 : vs 5 = _ := hv 5 (by decide)
    have q6 : vs 6 = _ := hv 6 (by decide)
    have q7 : vs 7 = _ := hv 7 (by decide)
    have S2 := Lib.hid hS
    simp only [putL, Act.put, Nat.zero_add, Nat.reduceAdd, List.setIfInBounds_toArray, List.set_cons_succ, List.set_cons_zero, q0, q1, q2, q3, q4, q5, q6, q7]
    clear hS hv q0 q1 q2 q3 q4 q5 q6 q7
    have S5 := Lib.hid (show Objs w0 w' (.box b5 66 (av24 a1) :: .box x 103 (rpv m o s.mode (s.kept.getD saved0) s.kept.isSome) :: .grid ug 106 s.cols (softR24 a1.n s.U) :: y :: pairO p s :: os) from by rw [HN.out]; exact S2.out.closeGrid (k := 2) rfl)
    clear S2 SO
    have hS2 := HCL.out _ _ _ (Objs.pick (σ := [_, _, _, _, _]) (os := os) S5.out [some 1, some 2, some 3, some 0, some 4] (by decide) rfl)
    have S6 := Lib.hid (show Objs w0 _ (pairO p s :: refO x (s.setU (softR24 a1.n s.U)) :: .box b5 66 (av24 a1) :: os) from Objs.pick (σ := [_, _, _]) (os := os) hS2 [some 2, some 0, some 1] (by decide) rfl)
    clear hS2 S5
    go_wp2_with fail
    refine (Do_front (f := 61) (first := #[]) (cap := #[.pointer (some ⟨b5, 0, none⟩)]) (re := 77) (L2 := softR24 a1.n s.U) (os := refO x (s.setU (softR24 a1.n s.U)) :: .box b5 66 (av24 a1) :: os) (fun _ _ => by kernel_rfl) S6.out (fun W g zs h => softFnD h HG.out.c0 HG.out.U.2.1 HG.out.rm)).mono ?_
    rintro e w6 ⟨rfl, hS⟩
    have S7 := Lib.hid hS
    clear hS S6
    go_wp2_with fail
    go_ret
    exact ⟨rfl, Objs.tail (Objs.pick (σ := [_, _, _]) (os := os) S7.out [some 2, some 0, some 1] (by decide) rfl)⟩
set_option maxRecDepth 100000 in
set_option maxHeartbeats 32000000 in
theorem does24_none {pp xp : Option Addr} (a1 : Act24) (h0 : ¬ a1.what = 0) (h1 : ¬ a1.what = 1) (h2 : ¬ a1.what = 2) (h3 : ¬ a1.what = 3) (h4 : ¬ a1.what = 4) (hS : Objs w0 w os) :
  Calls Tryd.prog 32 #[.pointer pp, .pointer xp, .agg (av24 a1)] w fun e w' => e = .returned (.bool true) ∧ Objs w0 w' os := by
 have S := Lib.hid hS
 clear hS
 have b0 := beq_no h0
 have b1 := beq_no h1
 have b2 := beq_no h2
 have b3 := beq_no h3
 have b4 := beq_no h4
 clear h0 h1 h2 h3 h4
 go_enter Tryd.func32, Tryd.ntmps32
 go_upto_region 1 with (fail)
 refine at_objsC (S.out.alloc1 (c1 := av24 a1) (t1 := 66)) (fun W hW => ?_)
 generalize w.heap.size = b5 at hW ⊢
 have S1 := Lib.hid hW
 clear hW S
 obtain ⟨hx5, hf5, hz5, hr5, hp5, hs5, hq5⟩ := (S1.out.box (k := 0) rfl).act24
 go_wp2_with fail
 go_ret
 exact ⟨rfl, S1.out.tail⟩
end
end Go.Proofs.YtdndoikgnohkkaaDoor

namespace Go.Proofs.YtdndoikgnohkkaaDoor
open Go.RowKit

def NoneG (w : World) (gp : Value) : Prop := ∀ w', Below w.heap.size w w' → Calls Tryd.prog 47 #[gp] w' fun e w2 => e = .returned (.bool true) ∧ Below w'.heap.size w' w2
theorem NoneG.bel {w w' : World} {gp : Value} (h : NoneG w gp) (hb : Below w.heap.size w w') : NoneG w' gp := fun w2 hb2 => h w2 (hb.trans (hb2.mono hb.size))
section
variable {w : World} {gp : Value}
end
section
variable {w0 w : World} {os : List Ob} {k p cols : Nat} {L : List Ln} {gp : Value}
end
end Go.Proofs.YtdndoikgnohkkaaDoor

namespace Go.Proofs.YtdndoikgnohkkaaDoor
open Go.RowKit

section
variable {w : World} {gp : Value}
theorem Rows_blk {p : Nat} {t : TypeId} (h : Blk w p t #[.int .i64 0, .slice none 0 0]) : Calls Tryd.prog 28 #[.pointer (some ⟨p, 0, none⟩)] w fun e w' => e = .returned (.int .i64 0) ∧ w = w' := by
 obtain ⟨hx, hf, hz⟩ := h.facts
 go_enter Tryd.func28, Tryd.ntmps28
 go_wp2_with fail
 go_ret
 exact ⟨rfl, rfl⟩
end
end Go.Proofs.YtdndoikgnohkkaaDoor

namespace Go.Proofs.YtdndoikgnohkkaaDoor
open Go.RowKit

theorem rsO_length (c R : Nat) (O : List Ln) : (rsO c R O).length = R := by simp [rsO, rsL_length]
theorem rsO_lt {c R i : Nat} {O : List Ln} {l : Ln} (hi : i < R) (h : O[i]? = some l) : (rsO c R O)[i]? = some (fitTo c l.1, false) := by
 have hio := (List.getElem?_eq_some_iff.1 h).1
 have h1 : (rsL c R O)[i]? = some l := by
  unfold rsL
  rw [List.getElem?_append_left (by simp; omega), List.getElem?_take, if_pos hi]; exact h
 unfold rsO
 rw [List.getElem?_map, h1]; rfl
theorem rsO_ge {c R i : Nat} {O : List Ln} (hi : i < R) (h : O.length ≤ i) : (rsO c R O)[i]? = some (List.replicate c (blank pen0), false) := by
 have h1 : (rsL c R O)[i]? = some (empties c, false) := by
  unfold rsL
  rw [List.getElem?_append_right (by simp; omega), List.getElem?_replicate, if_pos (by simp; omega)]
 have h2 : fitTo c (empties c) = empties c := by
  have h3 := fit_len (cs := empties c) (rowOk_is.2 (rowV_blanks (by decide +kernel)))
  rwa [show (empties c).length = c by simp [empties]] at h3
 unfold rsO
 rw [List.getElem?_map, h1]
 show some (fitTo c (empties c), false) = _
 rw [h2]; rfl
theorem take_snoc24 {L : List Ln} {i : Nat} {x : Ln} (h : L[i]? = some x) : L.take i ++ [x] = L.take (i + 1) := by
 rw [List.take_add_one, h]; rfl
section
variable {w0 w : World} {os : List Ob} {pp x : Nat} {s : Pr}
theorem Resize_nil24 (hS : Objs w0 w (pairO pp s :: os)) : Calls Tryd.prog 16 #[.pointer (some ⟨pp, 0, none⟩), .pointer none] w fun e w' => e = .returned (.int .i64 1) ∧ Objs w0 w' (pairO pp s :: os) := by
 obtain ⟨g, m, kv, ko, hK, hO⟩ := hS.openPair
 have HK := Lib.hid hK
 have S := Lib.hid hO
 clear hS hK hO
 go_enter Tryd.func16, Tryd.ntmps16
 go_wp2_with fail
 refine (pnone_no S.out (k := 0) rfl).mono ?_
 rintro e w1 ⟨rfl, hS⟩
 have S1 := Lib.hid hS
 clear hS S
 go_wp2_with fail
 refine (Rows_nil _).mono ?_
 rintro e w2 ⟨rfl, rfl⟩
 go_wp2_with fail
 go_ret
 exact ⟨rfl, S1.out.closePair HK.out⟩
theorem Resize_zero24 {b : Nat} (hS : Objs w0 w (pairO pp s :: .box b 83 #[.int .i64 0, .slice none 0 0] :: os)) : Calls Tryd.prog 16 #[.pointer (some ⟨pp, 0, none⟩), .pointer (some ⟨b, 0, none⟩)] w fun e w' => e = .returned (.int .i64 1) ∧ Objs w0 w' (pairO pp s :: .box b 83 #[.int .i64 0, .slice none 0 0] :: os) := by
 obtain ⟨g, m, kv, ko, hK, hO⟩ := hS.openPair
 have HK := Lib.hid hK
 have S := Lib.hid hO
 clear hS hK hO
 go_enter Tryd.func16, Tryd.ntmps16
 go_wp2_with fail
 refine (pnone_no S.out (k := 0) rfl).mono ?_
 rintro e w1 ⟨rfl, hS⟩
 have S1 := Lib.hid hS
 clear hS S
 go_wp2_with fail
 refine (Rows_blk (S1.out.box (k := 4) rfl)).mono ?_
 rintro e w2 ⟨rfl, rfl⟩
 go_wp2_with fail
 go_ret
 exact ⟨rfl, S1.out.closePair HK.out⟩
set_option maxRecDepth 100000 in
set_option maxHeartbeats 32000000 in
theorem does24_resno {xp : Option Addr} (a1 : Act24) (hw : a1.what = 3) (hT : Tabs w0) (hS : Objs w0 w (pairO pp s :: os)) (hok : Ok24 w0 a1) (hfe : Few24 a1) (hno : ¬ Of24 a1) :
  Calls Tryd.prog 32 #[.pointer (some ⟨pp, 0, none⟩), .pointer xp, .agg (av24 a1)] w fun e w' => e = .returned (.bool true) ∧ Objs w0 w' (pairO pp s :: os) := by
 have S := Lib.hid hS
 have HT := Lib.hid hT
 have HOA := Lib.hid hok
 have HF := Lib.hid hfe
 have HNO := Lib.hid hno
 clear hS hT hok hfe hno
 have b0 := beq_no (show ¬ a1.what = 0 by omega)
 have b1 := beq_no (show ¬ a1.what = 1 by omega)
 have b2 := beq_no (show ¬ a1.what = 2 by omega)
 have b3 := beq_yes hw
 clear hw
 go_enter Tryd.func32, Tryd.ntmps32
 go_upto_region 1 with (fail)
 refine at_objsC (S.out.alloc1 (c1 := av24 a1) (t1 := 66)) (fun W hW => ?_)
 generalize w.heap.size = b5 at hW ⊢
 have S1 := Lib.hid hW
 clear hW S
 obtain ⟨hx5, hf5, hz5, hr5, hp5, hs5, hq5⟩ := (S1.out.box (k := 0) rfl).act24
 go_wp2_with fail
 refine (gridOf_no24 HT.out S1.out HOA.out HF.out HNO.out).mono ?_
 rintro e w1 ⟨rfl, hS⟩
 clear hx5 hf5 hz5 hr5 hp5 hs5 hq5
 have S2 := Lib.hid hS.swap
 clear hS S1
 go_wp2_with fail
 refine (Resize_nil24 S2.out).mono ?_
 rintro e w2 ⟨rfl, hS⟩
 have S3 := Lib.hid (hS.alloc1 (c1 := #[.int .i64 0, .slice none 0 0]) (t1 := 83)).swap
 clear hS S2
 go_wp2_with fail
 refine (Resize_zero24 S3.out).mono ?_
 rintro e w3 ⟨rfl, hS⟩
 have S4 := Lib.hid hS
 clear hS S3
 go_wp2_with fail
 go_ret
 exact ⟨rfl, Objs.tail (Objs.tail (Objs.pick (σ := [_, _, _]) (os := os) S4.out [some 2, some 1, some 0] (by decide) rfl))⟩
theorem ofL24_k' {a1 : Act24} {c : Nat} {N : List Ln} (h : Of24 a1) (hN : N = ofL24 a1) (hc : a1.n.toNat = c) : K24 c a1.L.length N := by subst hN hc; exact ofL24_k h
set_option maxRecDepth 100000 in
set_option maxHeartbeats 64000000 in
theorem does24_resyes {rr : Nat} (a1 : Act24) (hw : a1.what = 3) (hT : Tabs w0) (hS : Objs w0 w (pairO pp s :: refO x s :: os)) (hg : s.good rr) (hok : Ok24 w0 a1) (hfe : Few24 a1) (hyes : Of24 a1) :
  Calls Tryd.prog 32 #[.pointer (some ⟨pp, 0, none⟩), .pointer (some ⟨x, 0, none⟩), .agg (av24 a1)] w fun e w' => e = .returned (.bool true) ∧ Objs w0 w' (pairO pp (resN a1.n.toNat (ofL24 a1) s) :: refO x (resN a1.n.toNat (ofL24 a1) s) :: os) := by
 have S := Lib.hid hS
 have HT := Lib.hid hT
 have HG := Lib.hid hg
 have HOA := Lib.hid hok
 have HF := Lib.hid hfe
 have HYES := Lib.hid hyes
 have hcm : a1.n.toNat ≤ 1000 := hyes.cm
 have hc0 : 0 < a1.n.toNat := hyes.c0
 have hR0 : 0 < a1.L.length := hyes.r0
 have hRm : a1.L.length ≤ 1000 := by have := hfe.1; omega
 clear hS hT hok hfe hg
 have b0 := beq_no (show ¬ a1.what = 0 by omega)
 have b1 := beq_no (show ¬ a1.what = 1 by omega)
 have b2 := beq_no (show ¬ a1.what = 2 by omega)
 have b3 := beq_yes hw
 clear hw
 go_enter Tryd.func32, Tryd.ntmps32
 go_upto_region 1 with (fail)
 refine at_objsC (S.out.alloc1 (c1 := av24 a1) (t1 := 66)) (fun W hW => ?_)
 generalize w.heap.size = b5 at hW ⊢
 have S1 := Lib.hid hW
 clear hW S
 obtain ⟨hx5, hf5, hz5, hr5, hp5, hs5, hq5⟩ := (S1.out.box (k := 0) rfl).act24
 go_wp2_with fail
 refine (gridOf_yes24 HT.out S1.out HOA.out HF.out HYES.out).mono ?_
 rintro e w1 ⟨gn, rfl, hS⟩
 clear hx5 hf5 hz5 hr5 hp5 hs5 hq5
 obtain ⟨c, hc⟩ : ∃ c, a1.n.toNat = c := ⟨_, rfl⟩
 obtain ⟨N, hN⟩ : ∃ N, N = ofL24 a1 := ⟨_, rfl⟩
 have HNC := Lib.hid (show a1.n = (c : Int) by have := hyes.n1; omega)
 have HCC := Lib.hid hc
 have HNL0 := Lib.hid hN
 rw [← hN] at hS
 rw [hc] at hS hcm hc0
 have HK := Lib.hid (ofL24_k' hyes hN hc)
 clear hyes hc hN
 obtain ⟨R, hR⟩ : ∃ R, a1.L.length = R := ⟨_, rfl⟩
 have HRR := Lib.hid hR
 have HNL := Lib.hid (show N.length = R by rw [← hR]; exact HK.out.2.1)
 rw [hR] at hR0 hRm
 clear hR
 have HNR := Lib.hid HK.out.1
 have HNM := Lib.hid (HK.out.1.mill hcm)
 have hNm : N.length ≤ 1000000 := by rw [HNL.out]; omega
 have S2 := Lib.hid (show Objs w0 w1 (.grid gn 83 ↑c N :: .box b5 66 (av24 a1) :: pairO pp s :: refO x s :: os) from hS)
 clear hS S1
 go_upto_region 30 with (fail)
 refine wp_region_stage (w0 := w0) (os := pairO pp s :: refO x s :: os) (by kernel_rfl) (by kernel_rfl) (by kernel_rfl) [] [[], [], [], [], [0], [], [1], [], []] [.grid gn 83 ↑c N, .box b5 66 (av24 a1)] (fun opn u => match opn with | 0 => u = .pointer (some ⟨gn, 0, none⟩) | 1 => u = .bool false | 2 => u = .bool false | 3 => u = .pointer (some ⟨gn, 0, none⟩) | 4 => u = .int .i64 ↑c | 5 => u = .pointer (some ⟨b5, 1, none⟩) | 6 => u = .int .i64 ↑c | 7 => u = .bool false | 8 => u = .bool false | _ => True) (fun vs => [.grid gn 83 ↑c N, .box b5 66 (av24 a1)]) (by kernel_rfl) (fun vs => by rfl) S2.out ?_ ?_
 ·apply sc
  ·intro a w' vs σ hS hl hs hk
   have f12 : a.tmps[12]?.getD undef = .pointer (some ⟨gn, 0, none⟩) := sof hk
   exact rp (pt gn 0) (by simp [execOp, Act.eval, f12, go_sem]) hl hs hS
  apply sc
  ·intro a w' vs σ hS hl hs hk
   have f235 : a.tmps[235]?.getD undef = .pointer (some ⟨gn, 0, none⟩) := svf hk 0
   exact rp (.bool false) (by simp [execOp, Act.eval, f235, go_sem]) hl hs hS
  apply sc
  ·intro a w' vs σ hS hl hs hk
   have f236 : a.tmps[236]?.getD undef = .bool false := svf hk 1
   exact rp (.bool false) (by simp [execOp, Act.eval, f236, go_sem]) hl hs hS
  apply sc
  ·intro a w' vs σ hS hl hs hk
   have f12 : a.tmps[12]?.getD undef = .pointer (some ⟨gn, 0, none⟩) := sof hk
   exact rq (pt gn 0) (wanted_yes rfl rfl rfl (svv hk 2)) (by simp [execOp, Act.eval, f12, go_sem]) hl hs hS
  apply sc
  ·intro a w' vs σ hS hl hs hk
   have e238 : a.tmps.getD 238 undef = .pointer (some ⟨gn, 0, none⟩) := svv hk 3
   exact ro_call (f := 29) (wanted_yes rfl rfl rfl (svv hk 2)) rfl (by simp only [List.map_toArray, List.map_cons, List.map_nil, Act.eval, e238] <;> rfl) (fun _ _ => by kernel_rfl) ((Cols_any hS (sg (hs 0 (by decide)))).mono fun e w2 ⟨h1, h2⟩ => ⟨_, h1, sp_same (by kernel_rfl) hl hs h2 rfl, trivial⟩)
  apply sc
  ·intro a w' vs σ hS hl hs hk
   have f5 : a.tmps[5]?.getD undef = .pointer (some ⟨b5, 0, none⟩) := sof hk
   exact rq (pt b5 1) (wanted_yes rfl rfl rfl (svv hk 2)) (by simp [execOp, Act.eval, f5, go_sem]) hl hs hS
  apply sc
  ·intro a w' vs σ hS hl hs hk
   have f240 : a.tmps[240]?.getD undef = .pointer (some ⟨b5, 1, none⟩) := svf hk 5
   have hx := ((hS.box (sg (hs 1 (by decide)))).cell 1).trans (show (av24 a1)[1]? = some (.int .i64 (c : Int) : Value) by rw [← HNC.out]; rfl)
   exact rq (.int .i64 ↑c) (wanted_yes rfl rfl rfl (svv hk 2)) (by simp [execOp, Act.eval, f240, go_sem, hx]) hl hs hS
  apply sc
  ·intro a w' vs σ hS hl hs hk
   have f239 : a.tmps[239]?.getD undef = .int .i64 ↑c := svf hk 4
   have f241 : a.tmps[241]?.getD undef = .int .i64 ↑c := svf hk 6
   exact rq (.bool false) (wanted_yes rfl rfl rfl (svv hk 2)) (by simp [execOp, Act.eval, f239, f241, go_sem]) hl hs hS
  apply sc
  ·intro a w' vs σ hS hl hs hk
   have f237 : a.tmps[237]?.getD undef = .bool false := svf hk 2
   have f242 : a.tmps[242]?.getD undef = .bool false := svf hk 7
   exact rp (.bool false) (by simp [execOp, Act.eval, f237, f242, go_sem]) hl hs hS
  exact SSteps.nil
 ·intro vs w' hS hv
  have q0 : vs 0 = _ := hv 0 (by decide)
  have q1 : vs 1 = _ := hv 1 (by decide)
  have q2 : vs 2 = _ := hv 2 (by decide)
  have q3 : vs 3 = _ := hv 3 (by decide)
  have q4 : vs 4 = _ := hv 4 (by decide)
  have q5 : vs 5 = _ := hv 5 (by decide)
  have q6 : vs 6 = _ := hv 6 (by decide)
  have q7 : vs 7 = _ := hv 7 (by decide)
  have q8 : vs 8 = _ := hv 8 (by decide)
  have S2_ := Lib.hid hS
  simp only [putL, Act.put, Nat.zero_add, Nat.reduceAdd, List.setIfInBounds_toArray, List.set_cons_succ, List.set_cons_zero, q0, q1, q2, q3, q4, q5, q6, q7, q8]
  clear hS hv q0 q1 q2 q3 q4 q5 q6 q7 q8
  have S3 := S2_
  clear S2_
  obtain ⟨hx5, hf5, hz5, hr5, hp5, hs5, hq5⟩ := (S3.out.box (k := 1) rfl).act24
  have hx51 := (hx5 1).trans (show (av24 a1)[1]? = some (.int .i64 (c : Int) : Value) by rw [← HNC.out]; rfl)
  clear hx5 hf5 hr5 hp5 hs5 hq5
  go_upto_region 33 with (fail)
  have hal := S3.out.alloc1 (c1 := #[.int .i64 ↑c, .slice none 0 0]) (t1 := 106)
  refine at_objsC hal (fun W hW => ?_)
  clear hal
  revert hW
  generalize (World.heap _).size = p
  intro hW
  obtain ⟨m, o, hO⟩ := Objs.openRef (os := .box p 106 #[.int .i64 ↑c, .slice none 0 0] :: .grid gn 83 ↑c N :: .box b5 66 (av24 a1) :: pairO pp s :: os) (Objs.pick (σ := [_, _, _, _, _]) (os := os) hW [some 4, some 0, some 1, some 2, some 3] (by decide) rfl)
  have S4 := Lib.hid (show Objs w0 W (.lines (.slice none 0 0) ([]) :: .box p 106 #[.int .i64 ↑c, (.slice none 0 0)] :: .grid gn 83 ↑c N :: .box b5 66 (av24 a1) :: .box x 103 (rpv m o s.mode (s.kept.getD saved0) s.kept.isSome) :: .grid o 106 s.cols s.O :: .grid m 106 s.cols s.M :: pairO pp s :: os) from Objs.pick (σ := [_, _, _, _, _, _, _, _]) (os := os) hO.nilLines [some 0, some 4, some 5, some 6, some 1, some 3, some 2, some 7] (by decide) rfl)
  clear hW hO S3 hx51 hz5
  go_wp2_with fail
  go_loopg [15] R (fun g v15 wr => ∃ (i : Nat) (v : Value), i ≤ R ∧ g = R - i ∧ v15 = .int .i64 i ∧ Objs w0 wr (.lines v ((rsO c R s.O).take i) :: .box p 106 #[.int .i64 ↑c, v] :: .grid gn 83 ↑c N :: .box b5 66 (av24 a1) :: .box x 103 (rpv m o s.mode (s.kept.getD saved0) s.kept.isSome) :: .grid o 106 s.cols s.O :: .grid m 106 s.cols s.M :: pairO pp s :: os))
  case atStart => exact ⟨0, _, Nat.zero_le _, rfl, rfl, by rw [List.take_zero]; exact S4.out⟩
  case round =>
   clear S4
   obtain ⟨i, v, hi, rfl, rfl, hS⟩ := hrel
   have S5 := Lib.hid hS
   clear hS
   go_wp2_with fail
   have hcon := Rows_any S5.out (k := 2) rfl
   rw [HNL.out] at hcon
   refine hcon.mono ?_
   rintro e w5 ⟨rfl, hS⟩
   have S6 := Lib.hid hS
   clear hS S5 hcon
   by_cases hlt : i < R
   case neg =>
    obtain rfl : R = i := by omega
    clear hlt hi
    go_upto_region 44 with (fail)
    have SX := Lib.hid (show Objs w0 _ (.none :: .none :: .grid gn 83 ↑c N :: .box b5 66 (av24 a1) :: .box x 103 (rpv m o s.mode (s.kept.getD saved0) s.kept.isSome) :: .lines v (rsO c R s.O) :: .box p 106 #[.int .i64 ↑c, v] :: .grid o 106 s.cols s.O :: .grid m 106 s.cols s.M :: pairO pp s :: os) from by
     have h := S6.out
     rw [List.take_of_length_le (by rw [rsO_length]; exact Nat.le_refl _)] at h
     exact Objs.pick (σ := [_, _, _, _, _, _, _, _]) (os := os) h [none, none, some 2, some 3, some 4, some 0, some 1, some 5, some 6, some 7] (by decide) rfl)
    clear S6
    refine wp_region_stage (w0 := w0) (os := .lines v (rsO c R s.O) :: .box p 106 #[.int .i64 ↑c, v] :: .grid o 106 s.cols s.O :: .grid m 106 s.cols s.M :: pairO pp s :: os) (by kernel_rfl) (by kernel_rfl) (by kernel_rfl) [(0, 5, [5], fun vs => .lines (vs 5) N), (0, 6, [6], fun vs => .lines (sndV (vs 6)) N), (1, 7, [6, 7], fun vs => .box (blkOf (vs 7)) 106 #[.int .i64 ↑c, sndV (vs 6)]), (4, 11, [7], fun vs => .box x 103 (rpv (blkOf (vs 7)) o s.mode (s.kept.getD saved0) s.kept.isSome)), (4, 14, [7], fun vs => .box x 103 (rpv (blkOf (vs 7)) p s.mode (s.kept.getD saved0) s.kept.isSome))] [[], [], [], [3], [], [0, 2], [0], [1], [], [], [], [4], [], [], [4]] [.none, .none, .grid gn 83 ↑c N, .box b5 66 (av24 a1), .box x 103 (rpv m o s.mode (s.kept.getD saved0) s.kept.isSome)] (fun opn u => match opn with | 0 => u = .pointer (some ⟨x, 0, none⟩) | 1 => u = .pointer (some ⟨x, 0, none⟩) | 2 => u = .pointer (some ⟨b5, 1, none⟩) | 3 => u = .int .i64 ↑c | 4 => u = .pointer (some ⟨gn, 0, none⟩) | 5 => ∃ A n c, u = .slice A n c | 6 => ∃ A n c5, u = .agg #[.int .i64 ↑c, .slice A n c5] | 7 => ∃ g, u = .pointer (some ⟨g, 0, none⟩) | 8 => u = .pointer (some ⟨p, 0, none⟩) | 9 => u = .pointer (some ⟨x, 0, none⟩) | 10 => u = .pointer (some ⟨x, 0, none⟩) | 11 => True | 12 => u = .pointer (some ⟨x, 0, none⟩) | 13 => u = .pointer (some ⟨x, 1, none⟩) | 14 => True | _ => True) (fun vs => [.lines (sndV (vs 6)) N, .box (blkOf (vs 7)) 106 #[.int .i64 ↑c, sndV (vs 6)], .grid gn 83 ↑c N, .box b5 66 (av24 a1), .box x 103 (rpv (blkOf (vs 7)) p s.mode (s.kept.getD saved0) s.kept.isSome)]) (by kernel_rfl) (fun vs => by rfl) SX.out ?_ ?_
    ·apply sc
     ·intro a w' vs σ hS hl hs hk
      have f1 : a.tmps[1]?.getD undef = .pointer (some ⟨x, 0, none⟩) := sof hk
      exact rp (pt x 0) (by simp [execOp, Act.eval, f1, go_sem]) hl hs hS
     apply sc
     ·intro a w' vs σ hS hl hs hk
      have f1 : a.tmps[1]?.getD undef = .pointer (some ⟨x, 0, none⟩) := sof hk
      exact rp (pt x 0) (by simp [execOp, Act.eval, f1, go_sem]) hl hs hS
     apply sc
     ·intro a w' vs σ hS hl hs hk
      have f5 : a.tmps[5]?.getD undef = .pointer (some ⟨b5, 0, none⟩) := sof hk
      exact rp (pt b5 1) (by simp [execOp, Act.eval, f5, go_sem]) hl hs hS
     apply sc
     ·intro a w' vs σ hS hl hs hk
      have f300 : a.tmps[300]?.getD undef = .pointer (some ⟨b5, 1, none⟩) := svf hk 2
      have hx := ((hS.box (sg (hs 3 (by decide)))).cell 1).trans (show (av24 a1)[1]? = some (.int .i64 (c : Int) : Value) by rw [← HNC.out]; rfl)
      exact rp (.int .i64 ↑c) (by simp [execOp, Act.eval, f300, go_sem, hx]) hl hs hS
     apply sc
     ·intro a w' vs σ hS hl hs hk
      have f12 : a.tmps[12]?.getD undef = .pointer (some ⟨gn, 0, none⟩) := sof hk
      exact rp (pt gn 0) (by simp [execOp, Act.eval, f12, go_sem]) hl hs hS
     apply sc
     ·intro a w' vs σ hS hl hs hk
      have e302 : a.tmps.getD 302 undef = .pointer (some ⟨gn, 0, none⟩) := svv hk 4
      have h0 : σ[0]? = some .none := hs 0 (by decide)
      have h2 : σ[2]? = some (.grid gn 83 ↑c N) := hs 2 (by decide)
      exact ro_call (f := 40) (wanted_none rfl) rfl (by simp only [List.map_toArray, List.map_cons, List.map_nil, Act.eval, e302] <;> rfl) (fun _ _ => by kernel_rfl) ((Lines_any hS (sg h2) hc0 HNM.out hNm).mono fun e w2 ⟨x9, h1, h2⟩ => ⟨_, h1, sp_set 0 (.lines x9 N) (by kernel_rfl) (by simp) (by decide) hl hs (by rfl) (h2.place (sg h0)) (by obtain ⟨A, c, e, -⟩ := h2.linesRd (k := 0) rfl; exact ⟨A, _, c, e⟩), trivial⟩)
     apply sc
     ·intro a w' vs σ hS hl hs hk
      have f301 : a.tmps[301]?.getD undef = .int .i64 ↑c := svf hk 3
      have e303 : a.tmps.getD 303 undef = vs 5 := sk_val hk 5 (by kernel_rfl) rfl rfl
      have p303 : (fun u : Value => ∃ A n c, u = .slice A n c) (vs 5) := (hk.1 5 (by kernel_rfl)).1
      obtain ⟨A5, n5, c5, q5⟩ := p303
      have e9 := e303.trans q5
      have f9 := gd e9
      have h0 : σ[0]? = some (.lines (vs 5) N) := hs 0 (by decide)
      rw [q5] at h0
      have hSS : Objs w0 w' ((σ ++ (.lines v (rsO c R s.O) :: .box p 106 #[.int .i64 ↑c, v] :: .grid o 106 s.cols s.O :: .grid m 106 s.cols s.M :: pairO pp s :: os)).set 0 (.lines (.slice A5 n5 c5) N)) := by rw [set_self (sg h0)]; exact hS
      exact rs_run (v' := .agg #[.int .i64 ↑c, .slice A5 n5 c5]) (w' := w') (wanted_none rfl) (by simp [execOp, Act.eval, f301, e9, f9, go_sem]) (sp_set 0 (.lines (.slice A5 n5 c5) N) (by kernel_rfl) (by simp) (by decide) hl hs (by rfl) hSS ⟨A5, n5, c5, rfl⟩)
     apply sc
     ·intro a w' vs σ hS hl hs hk
      have e304 : a.tmps.getD 304 undef = vs 6 := sk_val hk 6 (by kernel_rfl) rfl rfl
      have p304 : (fun u : Value => ∃ A n c5, u = .agg #[.int .i64 ↑c, .slice A n c5]) (vs 6) := (hk.1 6 (by kernel_rfl)).1
      obtain ⟨A6, n6, c6, q6⟩ := p304
      have e9 := e304.trans q6
      have f9 := gd e9
      have h1 : σ[1]? = some .none := hs 1 (by decide)
      exact rs_run (v' := .pointer (some ⟨w'.heap.size, 0, none⟩)) (w' := w'.alloc (.cells #[.int .i64 ↑c, .slice A6 n6 c6] 106)) (wanted_none rfl) (by simp [execOp, Act.eval, e9, f9, go_sem]) (sp_set 1 (.box w'.heap.size 106 #[.int .i64 ↑c, .slice A6 n6 c6]) (by kernel_rfl) (by simp) (by decide) hl hs (by show Ob.box (blkOf (.pointer (some ⟨w'.heap.size, 0, none⟩))) 106 #[.int .i64 ↑c, sndV (vs 6)] = _; rw [q6]; rfl) (hS.alloc1.place (sg h1)) ⟨_, rfl⟩)
     apply sc
     ·intro a w' vs σ hS hl hs hk
      have f14 : a.tmps[14]?.getD undef = .pointer (some ⟨p, 0, none⟩) := sof hk
      exact rp (pt p 0) (by simp [execOp, Act.eval, f14, go_sem]) hl hs hS
     apply sc
     ·intro a w' vs σ hS hl hs hk
      have f298 : a.tmps[298]?.getD undef = .pointer (some ⟨x, 0, none⟩) := svf hk 0
      exact rp (pt x 0) (by simp [execOp, Act.eval, f298, go_sem]) hl hs hS
     apply sc
     ·intro a w' vs σ hS hl hs hk
      have f307 : a.tmps[307]?.getD undef = .pointer (some ⟨x, 0, none⟩) := svf hk 9
      exact rp (pt x 0) (by simp [execOp, Act.eval, f307, go_sem]) hl hs hS
     apply sc
     ·intro a w' vs σ hS hl hs hk
      have f308 : a.tmps[308]?.getD undef = .pointer (some ⟨x, 0, none⟩) := svf hk 10
      have e305 : a.tmps.getD 305 undef = vs 7 := sk_val hk 7 (by kernel_rfl) rfl rfl
      have p305 : (fun u : Value => ∃ g, u = .pointer (some ⟨g, 0, none⟩)) (vs 7) := (hk.1 7 (by kernel_rfl)).1
      have f305 := gd e305
      have h4 : σ[4]? = some (.box x 103 (rpv m o s.mode (s.kept.getD saved0) s.kept.isSome)) := hs 4 (by decide)
      obtain ⟨hx, hf, hz, -⟩ := (hS.box (sg h4)).rpair
      obtain ⟨g7, q7⟩ := p305
      exact rstep_store (w2 := w'.setCell ⟨x, 0, none⟩ (.pointer (some ⟨g7, 0, none⟩))) (wanted_none rfl) rfl (by simp [execOp, Act.eval, f308, e305, f305, q7, hx, hf, hz, go_sem]) (sp_set 4 (.box x 103 (rpv g7 o s.mode (s.kept.getD saved0) s.kept.isSome)) (by kernel_rfl) (by simp) (by decide) hl hs (by show Ob.box x 103 (rpv (blkOf (vs 7)) o s.mode (s.kept.getD saved0) s.kept.isSome) = _; rw [q7]; rfl) (by have h := hS.setBox 4 (i := 0) (u := .pointer (some ⟨g7, 0, none⟩)) (sg h4); rw [rpv_set0] at h; exact h) trivial) trivial
     apply sc
     ·intro a w' vs σ hS hl hs hk
      have f299 : a.tmps[299]?.getD undef = .pointer (some ⟨x, 0, none⟩) := svf hk 1
      exact rp (pt x 0) (by simp [execOp, Act.eval, f299, go_sem]) hl hs hS
     apply sc
     ·intro a w' vs σ hS hl hs hk
      have f309 : a.tmps[309]?.getD undef = .pointer (some ⟨x, 0, none⟩) := svf hk 12
      exact rp (pt x 1) (by simp [execOp, Act.eval, f309, go_sem]) hl hs hS
     apply sc
     ·intro a w' vs σ hS hl hs hk
      have f310 : a.tmps[310]?.getD undef = .pointer (some ⟨x, 1, none⟩) := svf hk 13
      have f306 : a.tmps[306]?.getD undef = pt p 0 := svf hk 8
      have h4 : σ[4]? = some (.box x 103 (rpv (blkOf (vs 7)) o s.mode (s.kept.getD saved0) s.kept.isSome)) := hs 4 (by decide)
      obtain ⟨hx, hf, hz, -⟩ := (hS.box (sg h4)).rpair
      exact rstep_store (w2 := w'.setCell ⟨x, 1, none⟩ (.pointer (some ⟨p, 0, none⟩))) (wanted_none rfl) rfl (by simp [execOp, Act.eval, f310, f306, hx, hf, hz, go_sem]) (sp_set 4 (.box x 103 (rpv (blkOf (vs 7)) p s.mode (s.kept.getD saved0) s.kept.isSome)) (by kernel_rfl) (by simp) (by decide) hl hs (by rfl) (by have h := hS.setBox 4 (i := 1) (u := .pointer (some ⟨p, 0, none⟩)) (sg h4); rw [rpv_set1] at h; exact h) trivial) trivial
     exact SSteps.nil
    ·intro vs w' hS hv
     have q0 : vs 0 = _ := hv 0 (by decide)
     have q1 : vs 1 = _ := hv 1 (by decide)
     have q2 : vs 2 = _ := hv 2 (by decide)
     have q3 : vs 3 = _ := hv 3 (by decide)
     have q4 : vs 4 = _ := hv 4 (by decide)
     have q8 : vs 8 = _ := hv 8 (by decide)
     have q9 : vs 9 = _ := hv 9 (by decide)
     have q10 : vs 10 = _ := hv 10 (by decide)
     have q12 : vs 12 = _ := hv 12 (by decide)
     have q13 : vs 13 = _ := hv 13 (by decide)
     obtain ⟨g7, q7⟩ := (show ∃ g, vs 7 = .pointer (some ⟨g, 0, none⟩) from hv 7 (by decide))
     rw [q7, show blkOf (.pointer (some ⟨g7, 0, none⟩)) = g7 from rfl] at hS
     have S2 := Lib.hid hS
     simp only [putL, Act.put, Nat.zero_add, Nat.reduceAdd, List.setIfInBounds_toArray, List.set_cons_succ, List.set_cons_zero, q0, q1, q2, q3, q4, q8, q9, q10, q12, q13]
     clear hS hv q0 q1 q2 q3 q4 q8 q9 q10 q12 q13
     clear q7
     have hA := (show Objs w0 w' (.lines _ N :: .box g7 106 _ :: .grid gn 83 ↑c N :: .box b5 66 (av24 a1) :: .box x 103 (rpv g7 p s.mode (s.kept.getD saved0) s.kept.isSome) :: .lines v (rsO c R s.O) :: .box p 106 #[.int .i64 ↑c, v] :: .grid o 106 s.cols s.O :: .grid m 106 s.cols s.M :: pairO pp s :: os) from S2.out).closeGrid (k := 0) rfl
     clear S2 SX
     have hB := (Objs.pick (σ := [_, _, _, _, _, _, _, _, _]) (os := os) hA [some 4, some 5, some 0, some 1, some 2, some 3, some 8] (by decide) rfl).closeGrid (k := 0) rfl
     have hC : Objs w0 w' (.box x 103 (rpv g7 p s.mode (s.kept.getD saved0) s.kept.isSome) :: .grid g7 106 ↑c N :: .grid p 106 ↑c (rsO c R s.O) :: pairO pp s :: .grid gn 83 ↑c N :: .box b5 66 (av24 a1) :: os) := Objs.pick (σ := [_, _, _, _, _, _]) (os := os) hB [some 4, some 1, some 0, some 5, some 2, some 3] (by decide) rfl
     rw [← HNL.out] at hC
     have hD := Objs.closeRef (s := resN c N s) (m := g7) (o := p) (os := pairO pp s :: .grid gn 83 ↑c N :: .box b5 66 (av24 a1) :: os) hC
     clear hA hB hC
     have S8 := Lib.hid (Objs.pick (σ := [_, _, _, _]) (os := os) hD [some 1, some 2, some 0, some 3] (by decide) rfl)
     clear hD
     go_wp2_with fail
     refine (Resize_front HT.out S8.out HG.out (ofL24_k' HYES.out HNL0.out HCC.out) hc0 hcm (by rw [HRR.out]; exact hR0) (by rw [HRR.out]; exact hRm)).mono ?_
     rintro e w8 ⟨rfl, hS⟩
     have S9 := Lib.hid hS
     clear hS S8
     go_wp2_with fail
     refine (put24_any (row := 0) (col := 0) ⟨120, 0, 0, 0, 1, pen0⟩ HT.out S9.out.swap hc0 hcm HNR.out).mono ?_
     rintro e w9 ⟨rfl, hS⟩
     have S10 := Lib.hid hS
     clear hS S9
     go_wp2_with fail
     go_ret
     exact ⟨rfl, by rw [HCC.out, ← HNL0.out]; exact Objs.tail (Objs.tail (Objs.pick (σ := [_, _, _, _]) (os := os) S10.out [some 0, some 3, some 1, some 2] (by decide) rfl))⟩
   case pos =>
    obtain ⟨hx5, hf5, hz5, hr5, hp5, hs5, hq5⟩ := (S6.out.box (k := 3) rfl).act24
    have hx51 := (hx5 1).trans (show (av24 a1)[1]? = some (.int .i64 (c : Int) : Value) by rw [← HNC.out]; rfl)
    clear hx5 hf5 hr5 hp5 hs5 hq5
    go_wp2_with fail
    refine (show Calls Tryd.prog 59 #[.int .i64 ↑c, .agg (pv pen0)] _ _ from r14Blanks_any c (by omega) pen0 w0 _ _ S6.out).mono ?_
    rintro e w6 ⟨v16, rfl, hS⟩
    obtain ⟨A16, c16, e16, -⟩ := hS.cellsRd (k := 0) rfl
    rw [List.length_replicate] at e16
    subst e16
    have S7 := Lib.hid hS
    clear hS S6 hx51 hz5
    go_upto_region 37 with (fail)
    refine at_objsC (S7.out.alloc1 (c1 := #[.slice A16 c c16, .bool false]) (t1 := 86)) (fun W hW => ?_)
    generalize w6.heap.size = bl at hW ⊢
    have S8 := Lib.hid hW
    clear hW S7
    obtain ⟨hxr, hfr, hzr, hrr⟩ := (S8.out.box (k := 6) rfl).rpair
    obtain ⟨Ao, co, hBo, -, hRo⟩ := S8.out.gridRd (k := 7) rfl
    obtain ⟨hxo, hfo, hzo⟩ := hBo.facts
    clear hBo
    go_upto_if 267 with (fail)
    obtain ⟨FT, hFT⟩ : ∃ FT, (rsO c R s.O)[i]? = some (FT, false) := by
     by_cases h : i < s.O.length
     ·obtain ⟨l, hl⟩ := get_of h
      exact ⟨_, rsO_lt hlt hl⟩
     ·exact ⟨_, rsO_ge hlt (by omega)⟩
    have HFT := Lib.hid hFT
    clear hFT
    go_cut [15] (fun s15 wx => s15 = .int .i64 ↑i ∧ ∃ (Af : Option Addr) (cf : Nat), Objs w0 wx (.box bl 86 #[.slice Af c cf, .bool false] :: .cells (.slice Af c cf) FT :: .lines v ((rsO c R s.O).take i) :: .box p 106 #[.int .i64 ↑c, v] :: .grid gn 83 ↑c N :: .box b5 66 (av24 a1) :: .box x 103 (rpv m o s.mode (s.kept.getD saved0) s.kept.isSome) :: .grid o 106 s.cols s.O :: .grid m 106 s.cols s.M :: pairO pp s :: os))
    case first =>
     by_cases hio : i < s.O.length
     case neg =>
      have hio1 : ¬ (i : Int) < (s.O.length : Int) := by omega
      have HFL := Lib.hid (show FT = List.replicate c (blank pen0) by have h := HFT.out; rw [rsO_ge hlt (by omega)] at h; simpa using h.symm)
      clear hxr hfr hzr hrr hxo hfo hzo hRo
      go_wp2_with fail
      go_meet
      case rel => exact ⟨rfl, A16, c16, by rw [HFL.out]; exact S8.out⟩
     case pos =>
      have hio1 : (i : Int) < (s.O.length : Int) := by omega
      obtain ⟨l, hl⟩ := get_of hio
      have HFL := Lib.hid (show FT = fitTo c l.1 by have h := HFT.out; rw [rsO_lt hlt hl] at h; simpa using h.symm)
      have HOKL := Lib.hid (show lineOk l.1 = true by
       have h1 := rowOk_is.2 (HG.out.O.2.2 l (List.mem_of_getElem? hl))
       have h2 := HG.out.O.1.at_ hl
       have h3 := HG.out.cm
       simp [lineOk, h1]; omega)
      have hlm : l.1.length ≤ 100000 := by have h2 := HG.out.O.1.at_ hl; have h3 := HG.out.cm; omega
      have HLI := Lib.hid hl
      have hi0 : (0 : Int) ≤ (i : Int) := by omega
      have hi1 := hio1
      clear hl
      go_upto_region 38 with (fail)
      refine at_objsC S8.out (fun W8 hW => ?_)
      clear hxr hfr hzr hrr hxo hfo hzo hRo S8
      have S8 := Lib.hid hW
      clear hW
      obtain ⟨hxr, hfr, hzr, hrr⟩ := (S8.out.box (k := 6) rfl).rpair
      obtain ⟨Ao, co, hBo, -, hRo⟩ := S8.out.gridRd (k := 7) rfl
      obtain ⟨hxo, hfo, hzo⟩ := hBo.facts
      have HTW := Lib.hid (S8.out.tabs HT.out)
      obtain ⟨g0, o0, B0, d0, rfl, hzg0, hc1, hc2, hB0⟩ := hRo.at_ HLI.out
      have HB0 := Lib.hid hB0
      clear hB0 hBo hRo
      obtain ⟨hx5, hf5, hz5, hr5, hp5, hs5, hq5⟩ := (S8.out.box (k := 5) rfl).act24
      have hx51 := (hx5 1).trans (show (av24 a1)[1]? = some (.int .i64 (c : Int) : Value) by rw [← HNC.out]; rfl)
      clear hx5 hf5 hr5 hp5 hs5 hq5
      refine wp_region_stage (w0 := W8) (os := []) (by kernel_rfl) (by kernel_rfl) (by kernel_rfl) [(0, 12, [12], fun vs => .cells (tupV (vs 12)) (fitTo c l.1)), (0, 13, [13], fun vs => .cells (tupV (vs 13)) (fitTo c l.1)), (0, 14, [14], fun vs => .cells (lineV (vs 14)) (fitTo c l.1)), (1, 16, [16], fun vs => .box (blkOf (vs 16)) 86 #[.slice none 0 0, .bool false]), (1, 17, [16, 14], fun vs => .box (blkOf (vs 16)) 86 #[lineV (vs 14), .bool l.2])] [[], [], [], [], [], [], [], [], [], [], [], [], [0], [0], [0], [], [1], [1], []] [.none, .none] (fun opn u => match opn with | 0 => u = .pointer (some ⟨x, 0, none⟩) | 1 => u = .pointer (some ⟨x, 0, none⟩) | 2 => u = .pointer (some ⟨x, 1, none⟩) | 3 => u = .pointer (some ⟨o, 0, none⟩) | 4 => u = .pointer (some ⟨o, 0, none⟩) | 5 => u = .pointer (some ⟨o, 1, none⟩) | 6 => u = .slice (some ⟨g0, o0, none⟩) s.O.length co | 7 => u = .int .i64 ↑i | 8 => u = .pointer (some ⟨g0, o0 + i * 2, none⟩) | 9 => u = .agg #[.slice B0 l.1.length d0, .bool l.2] | 10 => u = .pointer (some ⟨b5, 1, none⟩) | 11 => u = .int .i64 ↑c | 12 => ∃ A m c, u = .tuple #[.agg #[.slice A m c, .bool l.2], .int .i64 0] | 13 => ∃ A m c, u = .tuple #[.agg #[.slice A m c, .bool l.2], .int .i64 0] | 14 => ∃ A m c, u = .agg #[.slice A m c, .bool l.2] | 15 => u = .int .i64 0 | 16 => ∃ g, u = .pointer (some ⟨g, 0, none⟩) | 17 => True | 18 => u = .int .i64 0 | _ => True) (fun vs => [.cells (lineV (vs 14)) (fitTo c l.1), .box (blkOf (vs 16)) 86 #[lineV (vs 14), .bool l.2]]) (by kernel_rfl) (fun vs => by rfl) (objs_start W8).pad.pad ?_ ?_
      ·apply sc
       ·intro a w' vs σ hS hl hs hk
        have f1 : a.tmps[1]?.getD undef = .pointer (some ⟨x, 0, none⟩) := sof hk
        exact rp (pt x 0) (by simp [execOp, Act.eval, f1, go_sem]) hl hs hS
       apply sc
       ·intro a w' vs σ hS hl hs hk
        have f269 : a.tmps[269]?.getD undef = .pointer (some ⟨x, 0, none⟩) := svf hk 0
        exact rp (pt x 0) (by simp [execOp, Act.eval, f269, go_sem]) hl hs hS
       apply sc
       ·intro a w' vs σ hS hl hs hk
        have f270 : a.tmps[270]?.getD undef = .pointer (some ⟨x, 0, none⟩) := svf hk 1
        exact rp (pt x 1) (by simp [execOp, Act.eval, f270, go_sem]) hl hs hS
       apply sc
       ·intro a w' vs σ hS hl hs hk
        have f271 : a.tmps[271]?.getD undef = .pointer (some ⟨x, 1, none⟩) := svf hk 2
        have hxx0 := (hS.base.cell (p := ⟨x, 1, none⟩) hzr).trans (hxr 1)
        exact rp (pt o 0) (by simp [execOp, Act.eval, f271, go_sem, hxx0]) hl hs hS
       apply sc
       ·intro a w' vs σ hS hl hs hk
        have f272 : a.tmps[272]?.getD undef = .pointer (some ⟨o, 0, none⟩) := svf hk 3
        exact rp (pt o 0) (by simp [execOp, Act.eval, f272, go_sem]) hl hs hS
       apply sc
       ·intro a w' vs σ hS hl hs hk
        have f273 : a.tmps[273]?.getD undef = .pointer (some ⟨o, 0, none⟩) := svf hk 4
        exact rp (pt o 1) (by simp [execOp, Act.eval, f273, go_sem]) hl hs hS
       apply sc
       ·intro a w' vs σ hS hl hs hk
        have f274 : a.tmps[274]?.getD undef = .pointer (some ⟨o, 1, none⟩) := svf hk 5
        have hxx0 := (hS.base.cell (p := ⟨o, 1, none⟩) hzo).trans (hxo 1)
        exact rp (.slice (some ⟨g0, o0, none⟩) s.O.length co) (by simp [execOp, Act.eval, f274, go_sem, hxx0]) hl hs hS
       apply sc
       ·intro a w' vs σ hS hl hs hk
        have f15 : a.tmps[15]?.getD undef = .int .i64 ↑i := sof hk
        exact rp (.int .i64 ↑i) (by simp [execOp, Act.eval, f15, go_sem]) hl hs hS
       apply sc
       ·intro a w' vs σ hS hl hs hk
        have f275 : a.tmps[275]?.getD undef = .slice (some ⟨g0, o0, none⟩) s.O.length co := svf hk 6
        have f276 : a.tmps[276]?.getD undef = .int .i64 ↑i := svf hk 7
        exact rp (pt g0 (o0 + i * 2)) (by simp [execOp, Act.eval, f275, f276, go_sem, hi0, hi1]) hl hs hS
       apply sc
       ·intro a w' vs σ hS hl hs hk
        have f277 : a.tmps[277]?.getD undef = .pointer (some ⟨g0, o0 + i * 2, none⟩) := svf hk 8
        have hxa := (hS.base.cell (p := ⟨g0, o0 + i * 2, none⟩) hzg0).trans hc1
        have hya := (hS.base.cell (p := ⟨g0, o0 + i * 2 + 1, none⟩) hzg0).trans hc2
        exact rp (.agg #[.slice B0 l.1.length d0, .bool l.2]) (by simp [execOp, Act.eval, f277, go_sem, hxa, hya]) hl hs hS
       apply sc
       ·intro a w' vs σ hS hl hs hk
        have f5 : a.tmps[5]?.getD undef = .pointer (some ⟨b5, 0, none⟩) := sof hk
        exact rp (pt b5 1) (by simp [execOp, Act.eval, f5, go_sem]) hl hs hS
       apply sc
       ·intro a w' vs σ hS hl hs hk
        have f279 : a.tmps[279]?.getD undef = .pointer (some ⟨b5, 1, none⟩) := svf hk 10
        have hxx0 := (hS.base.cell (p := ⟨b5, 1, none⟩) hz5).trans hx51
        exact rp (.int .i64 ↑c) (by simp [execOp, Act.eval, f279, go_sem, hxx0]) hl hs hS
       apply sc
       ·intro a w' vs σ hS hl hs hk
        have e278 : a.tmps.getD 278 undef = .agg #[.slice B0 l.1.length d0, .bool l.2] := svv hk 9
        have e280 : a.tmps.getD 280 undef = .int .i64 ↑c := svv hk 11
        have h0 : σ[0]? = some .none := hs 0 (by decide)
        exact ro_call (f := 60) (wanted_none rfl) rfl (by simp only [List.map_toArray, List.map_cons, List.map_nil, Act.eval, e278, e280] <;> rfl) (fun _ _ => by kernel_rfl) ((lineFit_yes B0 d0 l.1 l.2 c hcm w' (HTW.out.bel hS.base) (HB0.out.bel hS.base) hlm HOKL.out).mono fun e w2 ⟨v3, h1, ho, hb⟩ => ⟨_, h1, sp_set 0 (.cells v3 (fitTo c l.1)) (by kernel_rfl) (by simp) (by decide) hl hs (by rfl) ((hS.newCells hb ho).place (sg h0)) (by obtain ⟨A', c', e, -⟩ := ho.form; exact ⟨A', _, c', by rw [e]⟩), trivial⟩)
       apply sc
       ·intro a w' vs σ hS hl hs hk
        have e281 : a.tmps.getD 281 undef = vs 12 := sk_val hk 12 (by kernel_rfl) rfl rfl
        have p281 : (fun u : Value => ∃ A m c, u = .tuple #[.agg #[.slice A m c, .bool l.2], .int .i64 0]) (vs 12) := (hk.1 12 (by kernel_rfl)).1
        obtain ⟨A9, n9, c9, q9⟩ := p281
        have e9 := e281.trans q9
        have f9 := gd e9
        have h0 : σ[0]? = some (.cells (tupV (vs 12)) (fitTo c l.1)) := hs 0 (by decide)
        rw [q9, show tupV (.tuple #[.agg #[.slice A9 n9 c9, .bool l.2], .int .i64 0]) = .slice A9 n9 c9 from rfl] at h0
        have hSS : Objs W8 w' ((σ ++ []).set 0 (.cells (.slice A9 n9 c9) (fitTo c l.1))) := by rw [set_self (sg h0)]; exact hS
        exact rs_run (v' := .tuple #[.agg #[.slice A9 n9 c9, .bool l.2], .int .i64 0]) (w' := w') (wanted_none rfl) (by simp [execOp, Act.eval, e9, f9, go_sem]) (sp_set 0 (.cells (.slice A9 n9 c9) (fitTo c l.1)) (by kernel_rfl) (by simp) (by decide) hl hs (by rfl) hSS ⟨A9, n9, c9, rfl⟩)
       apply sc
       ·intro a w' vs σ hS hl hs hk
        have e268 : a.tmps.getD 268 undef = vs 13 := sk_val hk 13 (by kernel_rfl) rfl rfl
        have p268 : (fun u : Value => ∃ A m c, u = .tuple #[.agg #[.slice A m c, .bool l.2], .int .i64 0]) (vs 13) := (hk.1 13 (by kernel_rfl)).1
        obtain ⟨A9, n9, c9, q9⟩ := p268
        have e9 := e268.trans q9
        have f9 := gd e9
        have h0 : σ[0]? = some (.cells (tupV (vs 13)) (fitTo c l.1)) := hs 0 (by decide)
        rw [q9, show tupV (.tuple #[.agg #[.slice A9 n9 c9, .bool l.2], .int .i64 0]) = .slice A9 n9 c9 from rfl] at h0
        have hSS : Objs W8 w' ((σ ++ []).set 0 (.cells (.slice A9 n9 c9) (fitTo c l.1))) := by rw [set_self (sg h0)]; exact hS
        exact rs_run (v' := .agg #[.slice A9 n9 c9, .bool l.2]) (w' := w') (wanted_none rfl) (by simp [execOp, Act.eval, e9, f9, go_sem]) (sp_set 0 (.cells (.slice A9 n9 c9) (fitTo c l.1)) (by kernel_rfl) (by simp) (by decide) hl hs (by rfl) hSS ⟨A9, n9, c9, rfl⟩)
       apply sc
       ·intro a w' vs σ hS hl hs hk
        have e268 : a.tmps.getD 268 undef = vs 13 := sk_val hk 13 (by kernel_rfl) rfl rfl
        have p268 : (fun u : Value => ∃ A m c, u = .tuple #[.agg #[.slice A m c, .bool l.2], .int .i64 0]) (vs 13) := (hk.1 13 (by kernel_rfl)).1
        obtain ⟨A9, n9, c9, q9⟩ := p268
        have e9 := e268.trans q9
        have f9 := gd e9
        exact ro_pure (v := .int .i64 0) (wanted_none rfl) (by simp [execOp, Act.eval, e9, f9, go_sem]) (sp_same (by kernel_rfl) hl hs hS rfl) trivial
       apply sc
       ·intro a w' vs σ hS hl hs hk
        have h1 : σ[1]? = some .none := hs 1 (by decide)
        exact rs_run (v' := .pointer (some ⟨w'.heap.size, 0, none⟩)) (w' := w'.alloc (.cells #[.slice none 0 0, .bool false] 86)) (wanted_none rfl) (by simp [execOp, go_sem]) (sp_set 1 (.box w'.heap.size 86 #[.slice none 0 0, .bool false]) (by kernel_rfl) (by simp) (by decide) hl hs (by rfl) (hS.alloc1.place (sg h1)) ⟨_, rfl⟩)
       apply sc
       ·intro a w' vs σ hS hl hs hk
        have e17 : a.tmps.getD 17 undef = vs 16 := sk_val hk 16 (by kernel_rfl) rfl rfl
        have p17 : (fun u : Value => ∃ g, u = .pointer (some ⟨g, 0, none⟩)) (vs 16) := (hk.1 16 (by kernel_rfl)).1
        have f17 := gd e17
        have e282 : a.tmps.getD 282 undef = vs 14 := sk_val hk 14 (by kernel_rfl) rfl rfl
        have p282 : (fun u : Value => ∃ A m c, u = .agg #[.slice A m c, .bool l.2]) (vs 14) := (hk.1 14 (by kernel_rfl)).1
        have f282 := gd e282
        obtain ⟨g9', q9⟩ := p17
        obtain ⟨A7, n7, c7, q7⟩ := p282
        have h1 : σ[1]? = some (.box (blkOf (vs 16)) 86 #[.slice none 0 0, .bool false]) := hs 1 (by decide)
        rw [q9, show blkOf (.pointer (some ⟨g9', 0, none⟩)) = g9' from rfl] at h1
        obtain ⟨hx, hf, hz⟩ := (hS.box (sg h1)).facts
        exact rstep_store (w2 := (w'.setCell ⟨g9', 0, none⟩ (.slice A7 n7 c7)).setCell ⟨g9', 1, none⟩ (.bool l.2)) (wanted_none rfl) rfl (by simp [execOp, Act.eval, e17, f17, e282, f282, q9, q7, hx, hf, hz, go_sem]) (sp_set 1 (.box g9' 86 #[.slice A7 n7 c7, .bool l.2]) (by kernel_rfl) (by simp) (by decide) hl hs (by show Ob.box (blkOf (vs 16)) 86 #[lineV (vs 14), .bool l.2] = _; rw [q9, q7]; rfl) (hS.setLine 1 _ l.2 (sg h1)) trivial) trivial
       apply sc
       ·intro a w' vs σ hS hl hs hk
        have f283 : a.tmps[283]?.getD undef = .int .i64 0 := svf hk 15
        exact rp (.int .i64 0) (by simp [execOp, Act.eval, f283, go_sem]) hl hs hS
       exact SSteps.nil
      ·intro vs w' hS hv
       have q0 : vs 0 = _ := hv 0 (by decide)
       have q1 : vs 1 = _ := hv 1 (by decide)
       have q2 : vs 2 = _ := hv 2 (by decide)
       have q3 : vs 3 = _ := hv 3 (by decide)
       have q4 : vs 4 = _ := hv 4 (by decide)
       have q5 : vs 5 = _ := hv 5 (by decide)
       have q6 : vs 6 = _ := hv 6 (by decide)
       have q7 : vs 7 = _ := hv 7 (by decide)
       have q8 : vs 8 = _ := hv 8 (by decide)
       have q9 : vs 9 = _ := hv 9 (by decide)
       have q10 : vs 10 = _ := hv 10 (by decide)
       have q11 : vs 11 = _ := hv 11 (by decide)
       have q15 : vs 15 = _ := hv 15 (by decide)
       have q18 : vs 18 = _ := hv 18 (by decide)
       obtain ⟨b17, q16⟩ := (show ∃ g, vs 16 = .pointer (some ⟨g, 0, none⟩) from hv 16 (by decide))
       obtain ⟨A8, n8, c8, q14⟩ := (show ∃ A m c, vs 14 = .agg #[.slice A m c, .bool l.2] from hv 14 (by decide))
       obtain ⟨A7, n7, c7, q13⟩ := (show ∃ A m c, vs 13 = .tuple #[.agg #[.slice A m c, .bool l.2], .int .i64 0] from hv 13 (by decide))
       obtain ⟨A6, n6, c6, q12⟩ := (show ∃ A m c, vs 12 = .tuple #[.agg #[.slice A m c, .bool l.2], .int .i64 0] from hv 12 (by decide))
       rw [q16, q14, show lineV (.agg #[.slice A8 n8 c8, .bool l.2]) = .slice A8 n8 c8 from rfl, show blkOf (.pointer (some ⟨b17, 0, none⟩)) = b17 from rfl] at hS
       obtain ⟨Af, cf, e, -⟩ := hS.cellsRd (k := 0) rfl
       rw [fitTo_length] at e
       rw [e] at hS q14
       clear e
       have S2 := Lib.hid hS
       simp only [putL, Act.put, Nat.zero_add, Nat.reduceAdd, List.setIfInBounds_toArray, List.set_cons_succ, List.set_cons_zero, q0, q1, q2, q3, q4, q5, q6, q7, q8, q9, q10, q11, q15, q18]
       clear hS hv q0 q1 q2 q3 q4 q5 q6 q7 q8 q9 q10 q11 q15 q18
       simp only [q16, q14, q13, q12]
       have S9 := Lib.hid (S8.out.nests S2.out)
       clear S2 S8 q16 q14 q13 q12 HTW hxr hzr hxo hzo hzg0 hc1 hc2 HB0 hx51 hz5
       go_upto_region 41 with (fail)
       obtain ⟨hx17, hf17, hz17⟩ := (S9.out.box (k := 1) rfl).facts
       obtain ⟨hx16, hf16, hz16⟩ := (S9.out.box (k := 2) rfl).facts
       have S10 := Lib.hid ((Objs.setLine S9.out 2 (.slice Af c cf) l.2 rfl).setBox 2 (i := 1) (u := .bool false) rfl)
       go_wp2_with fail
       clear hx17 hf17 hz17 hx16 hf16 hz16 S9
       go_meet
       case rel => exact ⟨rfl, Af, cf, by rw [show (FT : List Cell) = fitTo c l.1 from HFL.out]; exact Objs.pick (σ := [_, _, _, _]) (os := .lines v ((rsO c R s.O).take i) :: .box p 106 #[.int .i64 ↑c, v] :: .grid gn 83 ↑c N :: .box b5 66 (av24 a1) :: .box x 103 (rpv m o s.mode (s.kept.getD saved0) s.kept.isSome) :: .grid o 106 s.cols s.O :: .grid m 106 s.cols s.M :: pairO pp s :: os) S10.out [some 2, some 0] (by decide) rfl⟩
    case rest =>
     obtain ⟨rfl, Af, cf, hS⟩ := hcut
     clear S8 hxr hfr hzr hrr hxo hfo hzo hRo
     have SX := Lib.hid (show Objs w0 _ (.none :: .lines v ((rsO c R s.O).take i) :: .box p 106 #[.int .i64 ↑c, v] :: .box bl 86 #[.slice Af c cf, .bool false] :: .cells (.slice Af c cf) FT :: .grid gn 83 ↑c N :: .box b5 66 (av24 a1) :: .box x 103 (rpv m o s.mode (s.kept.getD saved0) s.kept.isSome) :: .grid o 106 s.cols s.O :: .grid m 106 s.cols s.M :: pairO pp s :: os) from Objs.pick (σ := [_, _, _, _]) (os := .grid gn 83 ↑c N :: .box b5 66 (av24 a1) :: .box x 103 (rpv m o s.mode (s.kept.getD saved0) s.kept.isSome) :: .grid o 106 s.cols s.O :: .grid m 106 s.cols s.M :: pairO pp s :: os) hS [none, some 2, some 3, some 0, some 1] (by decide) rfl)
     have HLL := Lib.hid (show ((rsO c R s.O).take i).length ≤ 1000000 by simp; omega)
     clear hS
     go_upto_region 43 with (fail)
     refine wp_region_stage (w0 := w0) (os := .grid gn 83 ↑c N :: .box b5 66 (av24 a1) :: .box x 103 (rpv m o s.mode (s.kept.getD saved0) s.kept.isSome) :: .grid o 106 s.cols s.O :: .grid m 106 s.cols s.M :: pairO pp s :: os) (by kernel_rfl) (by kernel_rfl) (by kernel_rfl) [(0, 6, [6], fun vs => .box (blkOf (vs 6)) 86 #[.slice Af c cf, .bool false]), (1, 7, [7], fun vs => .lines (vs 7) (((rsO c R s.O).take i) ++ [(FT, false)])), (4, 7, [], fun vs => .none), (2, 10, [7], fun vs => .box p 106 #[.int .i64 ↑c, vs 7])] [[], [], [], [], [2], [3], [0], [0, 1, 4], [], [], [2]] [.none, .lines v ((rsO c R s.O).take i), .box p 106 #[.int .i64 ↑c, v], .box bl 86 #[.slice Af c cf, .bool false], .cells (.slice Af c cf) FT] (fun opn u => match opn with | 0 => u = .pointer (some ⟨p, 0, none⟩) | 1 => u = .pointer (some ⟨p, 0, none⟩) | 2 => u = .pointer (some ⟨p, 0, none⟩) | 3 => u = .pointer (some ⟨p, 1, none⟩) | 4 => u = (v : Value) | 5 => u = .agg #[.slice Af c cf, .bool false] | 6 => ∃ g, u = .slice (some ⟨g, 0, none⟩) 1 1 | 7 => ∃ A n c, u = .slice A n c | 8 => u = .pointer (some ⟨p, 0, none⟩) | 9 => u = .pointer (some ⟨p, 1, none⟩) | 10 => True | _ => True) (fun vs => [.box (blkOf (vs 6)) 86 #[.slice Af c cf, .bool false], .lines (vs 7) (((rsO c R s.O).take i) ++ [(FT, false)]), .box p 106 #[.int .i64 ↑c, vs 7], .box bl 86 #[.slice Af c cf, .bool false], .none]) (by kernel_rfl) (fun vs => by rfl) SX.out ?_ ?_
     ·apply sc
      ·intro a w' vs σ hS hl hs hk
       have f14 : a.tmps[14]?.getD undef = .pointer (some ⟨p, 0, none⟩) := sof hk
       exact rp (pt p 0) (by simp [execOp, Act.eval, f14, go_sem]) hl hs hS
      apply sc
      ·intro a w' vs σ hS hl hs hk
       have f14 : a.tmps[14]?.getD undef = .pointer (some ⟨p, 0, none⟩) := sof hk
       exact rp (pt p 0) (by simp [execOp, Act.eval, f14, go_sem]) hl hs hS
      apply sc
      ·intro a w' vs σ hS hl hs hk
       have f289 : a.tmps[289]?.getD undef = .pointer (some ⟨p, 0, none⟩) := svf hk 1
       exact rp (pt p 0) (by simp [execOp, Act.eval, f289, go_sem]) hl hs hS
      apply sc
      ·intro a w' vs σ hS hl hs hk
       have f290 : a.tmps[290]?.getD undef = .pointer (some ⟨p, 0, none⟩) := svf hk 2
       exact rp (pt p 1) (by simp [execOp, Act.eval, f290, go_sem]) hl hs hS
      apply sc
      ·intro a w' vs σ hS hl hs hk
       have f291 : a.tmps[291]?.getD undef = .pointer (some ⟨p, 1, none⟩) := svf hk 3
       have hx := (hS.box (sg (hs 2 (by decide)))).cell
       exact rp v (by simp [execOp, Act.eval, f291, go_sem, hx]) hl hs hS
      apply sc
      ·intro a w' vs σ hS hl hs hk
       have f16 : a.tmps[16]?.getD undef = .pointer (some ⟨bl, 0, none⟩) := sof hk
       have hx := (hS.box (sg (hs 3 (by decide)))).cell
       exact rp (.agg #[.slice Af c cf, .bool false]) (by simp [execOp, Act.eval, f16, go_sem, hx]) hl hs hS
      apply sc
      ·intro a w' vs σ hS hl hs hk
       have f293 : a.tmps[293]?.getD undef = .agg #[.slice Af c cf, .bool false] := svf hk 5
       have h1 : σ[0]? = some .none := hs 0 (by decide)
       exact rs_run (wanted_none rfl) (exec_bsl rfl (by simp [Act.eval, f293]) (run_bsl (.slice Af c cf) false w')) (sp_set 0 (.box w'.heap.size 86 #[.slice Af c cf, .bool false]) (by kernel_rfl) (by simp) (by decide) hl hs (by rfl) (hS.alloc1.place (sg h1)) ⟨_, rfl⟩)
      apply sc
      ·intro a w' vs σ hS hl hs hk
       have e292 : a.tmps.getD 292 undef = (v : Value) := svv hk 4
       have e294 : a.tmps.getD 294 undef = vs 6 := sk_val hk 6 (by kernel_rfl) rfl rfl
       have p294 : (fun u : Value => ∃ g, u = .slice (some ⟨g, 0, none⟩) 1 1) (vs 6) := (hk.1 6 (by kernel_rfl)).1
       have h2 : σ[1]? = some (.lines v ((rsO c R s.O).take i)) := hs 1 (by decide)
       have h0 : σ[4]? = some (.cells (.slice Af c cf) FT) := hs 4 (by decide)
       have h1 : σ[0]? = some (.box (blkOf (vs 6)) 86 #[.slice Af c cf, .bool false]) := hs 0 (by decide)
       obtain ⟨g8, hg8⟩ := p294
       rw [hg8, show blkOf (.slice (some ⟨g8, 0, none⟩) 1 1) = g8 from rfl] at h1
       obtain ⟨v9, w9, hr, hS2, A9, c9, hv9⟩ := run_appL hS (k := 1) (j := 4) (ad := ⟨g8, 0, none⟩) (c := 1) (s := false) (sg h2) (sg h0) (by decide) (by rw [(hS.box (sg h1)).cell]; rfl) (by rw [add_at, (hS.box (sg h1)).cell]; rfl) HLL.out 64
       exact rs_run (wanted_none rfl) (exec_app rfl (by simp only [Act.eval]; exact e292) (by simp only [Act.eval]; exact e294.trans hg8) hr) (sp_set2 1 4 (.lines v9 (((rsO c R s.O).take i) ++ [(FT, false)])) .none (by decide) (by kernel_rfl) (by simp) (by simp) (by decide) (by decide) hl hs (by rfl) (by rfl) hS2 ⟨A9, _, c9, hv9⟩)
      apply sc
      ·intro a w' vs σ hS hl hs hk
       have f288 : a.tmps[288]?.getD undef = .pointer (some ⟨p, 0, none⟩) := svf hk 0
       exact rp (pt p 0) (by simp [execOp, Act.eval, f288, go_sem]) hl hs hS
      apply sc
      ·intro a w' vs σ hS hl hs hk
       have f296 : a.tmps[296]?.getD undef = .pointer (some ⟨p, 0, none⟩) := svf hk 8
       exact rp (pt p 1) (by simp [execOp, Act.eval, f296, go_sem]) hl hs hS
      apply sc
      ·intro a w' vs σ hS hl hs hk
       have f297 : a.tmps[297]?.getD undef = .pointer (some ⟨p, 1, none⟩) := svf hk 9
       have e295 : a.tmps.getD 295 undef = vs 7 := sk_val hk 7 (by kernel_rfl) rfl rfl
       have p295 : (fun u : Value => ∃ A n c, u = .slice A n c) (vs 7) := (hk.1 7 (by kernel_rfl)).1
       have f295 := gd e295
       have h3 : σ[2]? = some (.box p 106 #[.int .i64 ↑c, v]) := hs 2 (by decide)
       obtain ⟨hx, hf, hz⟩ := (hS.box (sg h3)).facts
       obtain ⟨A9, n9, c9, q9⟩ := p295
       exact rstep_store (w2 := w'.setCell ⟨p, 1, none⟩ (.slice A9 n9 c9)) (wanted_none rfl) rfl (by simp [execOp, Act.eval, f297, e295, f295, q9, hx, hf, hz, go_sem]) (sp_set 2 (.box p 106 #[.int .i64 ↑c, vs 7]) (by kernel_rfl) (by simp) (by decide) hl hs (by rfl) (by rw [q9]; exact hS.setBox 2 (sg h3)) trivial) trivial
      exact SSteps.nil
     ·intro vs w' hS hv
      have q0 : vs 0 = _ := hv 0 (by decide)
      have q1 : vs 1 = _ := hv 1 (by decide)
      have q2 : vs 2 = _ := hv 2 (by decide)
      have q3 : vs 3 = _ := hv 3 (by decide)
      have q4 : vs 4 = _ := hv 4 (by decide)
      have q5 : vs 5 = _ := hv 5 (by decide)
      have q8 : vs 8 = _ := hv 8 (by decide)
      have q9 : vs 9 = _ := hv 9 (by decide)
      have S2 := Lib.hid hS
      simp only [putL, Act.put, Nat.zero_add, Nat.reduceAdd, List.setIfInBounds_toArray, List.set_cons_succ, List.set_cons_zero, q0, q1, q2, q3, q4, q5, q8, q9]
      clear hS hv q0 q1 q2 q3 q4 q5 q8 q9
      have S3 := Lib.hid ((((show Objs w0 _ (_ :: _ :: _ :: _ :: _ :: .grid gn 83 ↑c N :: .box b5 66 (av24 a1) :: .box x 103 (rpv m o s.mode (s.kept.getD saved0) s.kept.isSome) :: .grid o 106 s.cols s.O :: .grid m 106 s.cols s.M :: pairO pp s :: os) from S2.out).del 4).del 3).del 0)
      clear S2
      go_wp2_with fail
      go_roundg (R - (i + 1))
      case measure => omega
      case rel => exact ⟨i + 1, vs 7, by omega, rfl, by go_num, by have h := S3.out; rw [take_snoc24 HFT.out] at h; exact h⟩
end
end Go.Proofs.YtdndoikgnohkkaaDoor

namespace Go.Proofs.YtdndoikgnohkkaaDoor
open Go.RowKit

def fstV : Value → Value
 | .agg a => a.getD 0 undef
 | v => v
section
variable {w0 w : World} {os : List Ob} {p : Nat} {s : Pr}
set_option maxRecDepth 100000 in
set_option maxHeartbeats 8000000 in
theorem Copy_pair {rr : Nat} (hS : Objs w0 w (pairO p s :: os)) (hg : s.good rr) :
  Calls Tryd.prog 15 #[.pointer (some ⟨p, 0, none⟩)] w fun e w' => ∃ c, e = .returned (.pointer (some ⟨c, 0, none⟩)) ∧ Objs w0 w' (pairO c s :: pairO p s :: os) := by
 obtain ⟨g, m, kv, ko, hK, hO⟩ := hS.openPair
 have HK := Lib.hid hK
 have HG := Lib.hid hg
 have S := Lib.hid hO
 clear hS hK hO hg
 go_enter Tryd.func15, Tryd.ntmps15
 go_wp2_with fail
 refine (pnone_no S.out (k := 0) rfl).mono ?_
 rintro e w1 ⟨rfl, hS⟩
 have S1 := Lib.hid hS
 clear hS S
 go_upto_region 3 with (fail)
 refine wp_region_stage (w0 := w0) (os := ko :: os) (by kernel_rfl) (by kernel_rfl) (by kernel_rfl) [(0, 13, [13], fun vs => .grid (blkOf (vs 13)) 83 ↑s.cols s.M), (1, 19, [19], fun vs => .grid (blkOf (vs 19)) 83 ↑s.cols s.O), (0, 20, [20], fun vs => .grid (blkOf (fstV (vs 20))) 83 ↑s.cols s.M), (1, 20, [20], fun vs => .grid (blkOf (sndV (vs 20))) 83 ↑s.cols s.O), (0, 21, [21], fun vs => .grid (blkOf (fstV (vs 21))) 83 ↑s.cols s.M), (1, 21, [21], fun vs => .grid (blkOf (sndV (vs 21))) 83 ↑s.cols s.O), (2, 22, [21, 22], fun vs => .box (blkOf (vs 22)) 44 #[fstV (vs 21), sndV (vs 21), .int .i64 (used24 s.mode), .int .i64 s.mode, .pointer none]), (2, 23, [21, 23], fun vs => .box (blkOf (vs 23)) 44 #[fstV (vs 21), sndV (vs 21), .int .i64 (used24 s.mode), .int .i64 s.mode, .pointer none])] [[], [], [], [3], [], [], [], [3], [], [], [], [], [3], [0, 4], [], [], [], [], [3], [1, 5], [0, 1], [0, 1], [2], [2]] [.none, .none, .none, .box p 44 #[.pointer (some ⟨g, 0, none⟩), .pointer (some ⟨m, 0, none⟩), .int .i64 (used24 s.mode), .int .i64 s.mode, kv], .grid g 83 ↑s.cols s.M, .grid m 83 ↑s.cols s.O] (fun opn u => match opn with | 0 => u = .pointer (some ⟨p, 0, none⟩) | 1 => u = .pointer (some ⟨p, 0, none⟩) | 2 => u = .pointer (some ⟨p, 2, none⟩) | 3 => u = .int .i64 (used24 s.mode) | 4 => u = .pointer (some ⟨p, 0, none⟩) | 5 => u = .pointer (some ⟨p, 0, none⟩) | 6 => u = .pointer (some ⟨p, 3, none⟩) | 7 => u = .int .i64 s.mode | 8 => u = .pointer (some ⟨p, 0, none⟩) | 9 => u = .pointer (some ⟨p, 0, none⟩) | 10 => u = .pointer (some ⟨p, 0, none⟩) | 11 => u = .pointer (some ⟨p, 0, none⟩) | 12 => u = .pointer (some ⟨g, 0, none⟩) | 13 => ∃ g2, u = .pointer (some ⟨g2, 0, none⟩) | 14 => u = .pointer (some ⟨p, 0, none⟩) | 15 => u = .pointer (some ⟨p, 0, none⟩) | 16 => u = .pointer (some ⟨p, 0, none⟩) | 17 => u = .pointer (some ⟨p, 1, none⟩) | 18 => u = .pointer (some ⟨m, 0, none⟩) | 19 => ∃ g2, u = .pointer (some ⟨g2, 0, none⟩) | 20 => ∃ ga gb, u = .agg #[.pointer (some ⟨ga, 0, none⟩), .pointer (some ⟨gb, 0, none⟩)] | 21 => ∃ ga gb, u = .agg #[.pointer (some ⟨ga, 0, none⟩), .pointer (some ⟨gb, 0, none⟩), .int .i64 (used24 s.mode), .int .i64 s.mode, .pointer none] | 22 => ∃ g2, u = .pointer (some ⟨g2, 0, none⟩) | 23 => ∃ g2, u = .pointer (some ⟨g2, 0, none⟩) | _ => True) (fun vs => [.grid (blkOf (fstV (vs 21))) 83 ↑s.cols s.M, .grid (blkOf (sndV (vs 21))) 83 ↑s.cols s.O, .box (blkOf (vs 23)) 44 #[fstV (vs 21), sndV (vs 21), .int .i64 (used24 s.mode), .int .i64 s.mode, .pointer none], .box p 44 #[.pointer (some ⟨g, 0, none⟩), .pointer (some ⟨m, 0, none⟩), .int .i64 (used24 s.mode), .int .i64 s.mode, kv], .grid g 83 ↑s.cols s.M, .grid m 83 ↑s.cols s.O]) (by kernel_rfl) (fun vs => by rfl) S1.out.pad.pad.pad ?_ ?_
 ·apply sc
  ·intro a w' vs σ hS hl hs hk
   have f0 : a.tmps[0]?.getD undef = .pointer (some ⟨p, 0, none⟩) := sof hk
   exact rp (pt p 0) (by simp [execOp, Act.eval, f0, go_sem]) hl hs hS
  apply sc
  ·intro a w' vs σ hS hl hs hk
   have f7 : a.tmps[7]?.getD undef = .pointer (some ⟨p, 0, none⟩) := svf hk 0
   exact rp (pt p 0) (by simp [execOp, Act.eval, f7, go_sem]) hl hs hS
  apply sc
  ·intro a w' vs σ hS hl hs hk
   have f8 : a.tmps[8]?.getD undef = .pointer (some ⟨p, 0, none⟩) := svf hk 1
   exact rp (pt p 2) (by simp [execOp, Act.eval, f8, go_sem]) hl hs hS
  apply sc
  ·intro a w' vs σ hS hl hs hk
   have f9 : a.tmps[9]?.getD undef = .pointer (some ⟨p, 2, none⟩) := svf hk 2
   have hx := (hS.box (sg (hs 3 (by decide)))).cell
   exact rp (.int .i64 (used24 s.mode)) (by simp [execOp, Act.eval, f9, go_sem, hx]) hl hs hS
  apply sc
  ·intro a w' vs σ hS hl hs hk
   have f0 : a.tmps[0]?.getD undef = .pointer (some ⟨p, 0, none⟩) := sof hk
   exact rp (pt p 0) (by simp [execOp, Act.eval, f0, go_sem]) hl hs hS
  apply sc
  ·intro a w' vs σ hS hl hs hk
   have f11 : a.tmps[11]?.getD undef = .pointer (some ⟨p, 0, none⟩) := svf hk 4
   exact rp (pt p 0) (by simp [execOp, Act.eval, f11, go_sem]) hl hs hS
  apply sc
  ·intro a w' vs σ hS hl hs hk
   have f12 : a.tmps[12]?.getD undef = .pointer (some ⟨p, 0, none⟩) := svf hk 5
   exact rp (pt p 3) (by simp [execOp, Act.eval, f12, go_sem]) hl hs hS
  apply sc
  ·intro a w' vs σ hS hl hs hk
   have f13 : a.tmps[13]?.getD undef = .pointer (some ⟨p, 3, none⟩) := svf hk 6
   have hx := (hS.box (sg (hs 3 (by decide)))).cell
   exact rp (.int .i64 s.mode) (by simp [execOp, Act.eval, f13, go_sem, hx]) hl hs hS
  apply sc
  ·intro a w' vs σ hS hl hs hk
   have f0 : a.tmps[0]?.getD undef = .pointer (some ⟨p, 0, none⟩) := sof hk
   exact rp (pt p 0) (by simp [execOp, Act.eval, f0, go_sem]) hl hs hS
  apply sc
  ·intro a w' vs σ hS hl hs hk
   have f15 : a.tmps[15]?.getD undef = .pointer (some ⟨p, 0, none⟩) := svf hk 8
   exact rp (pt p 0) (by simp [execOp, Act.eval, f15, go_sem]) hl hs hS
  apply sc
  ·intro a w' vs σ hS hl hs hk
   have f16 : a.tmps[16]?.getD undef = .pointer (some ⟨p, 0, none⟩) := svf hk 9
   exact rp (pt p 0) (by simp [execOp, Act.eval, f16, go_sem]) hl hs hS
  apply sc
  ·intro a w' vs σ hS hl hs hk
   have f17 : a.tmps[17]?.getD undef = .pointer (some ⟨p, 0, none⟩) := svf hk 10
   exact rp (pt p 0) (by simp [execOp, Act.eval, f17, go_sem]) hl hs hS
  apply sc
  ·intro a w' vs σ hS hl hs hk
   have f18 : a.tmps[18]?.getD undef = .pointer (some ⟨p, 0, none⟩) := svf hk 11
   have hx := (hS.box (sg (hs 3 (by decide)))).cell
   exact rp (pt g 0) (by simp [execOp, Act.eval, f18, go_sem, hx]) hl hs hS
  apply sc
  ·intro a w' vs σ hS hl hs hk
   have e19 : a.tmps.getD 19 undef = .pointer (some ⟨g, 0, none⟩) := svv hk 12
   have h0 : σ[0]? = some .none := hs 0 (by decide)
   exact ro_call (f := 39) (wanted_none rfl) rfl (by simp only [List.map_toArray, List.map_cons, List.map_nil, Act.eval, e19] <;> rfl) (fun _ _ => by kernel_rfl) ((CopyG hS (sg (hs 4 (by decide))) HG.out.c0 HG.out.cm HG.out.M.1 (by have h1 := HG.out.M.2.1; have h2 := HG.out.rm; omega)).mono fun e w2 ⟨p2, h1, h2⟩ => ⟨_, h1, sp_set 0 (.grid p2 83 ↑s.cols s.M) (by kernel_rfl) (by simp) (by decide) hl hs (by rfl) (h2.place (sg h0)) ⟨p2, rfl⟩, trivial⟩)
  apply sc
  ·intro a w' vs σ hS hl hs hk
   have f0 : a.tmps[0]?.getD undef = .pointer (some ⟨p, 0, none⟩) := sof hk
   exact rp (pt p 0) (by simp [execOp, Act.eval, f0, go_sem]) hl hs hS
  apply sc
  ·intro a w' vs σ hS hl hs hk
   have f21 : a.tmps[21]?.getD undef = .pointer (some ⟨p, 0, none⟩) := svf hk 14
   exact rp (pt p 0) (by simp [execOp, Act.eval, f21, go_sem]) hl hs hS
  apply sc
  ·intro a w' vs σ hS hl hs hk
   have f22 : a.tmps[22]?.getD undef = .pointer (some ⟨p, 0, none⟩) := svf hk 15
   exact rp (pt p 0) (by simp [execOp, Act.eval, f22, go_sem]) hl hs hS
  apply sc
  ·intro a w' vs σ hS hl hs hk
   have f23 : a.tmps[23]?.getD undef = .pointer (some ⟨p, 0, none⟩) := svf hk 16
   exact rp (pt p 1) (by simp [execOp, Act.eval, f23, go_sem]) hl hs hS
  apply sc
  ·intro a w' vs σ hS hl hs hk
   have f24 : a.tmps[24]?.getD undef = .pointer (some ⟨p, 1, none⟩) := svf hk 17
   have hx := (hS.box (sg (hs 3 (by decide)))).cell
   exact rp (pt m 0) (by simp [execOp, Act.eval, f24, go_sem, hx]) hl hs hS
  apply sc
  ·intro a w' vs σ hS hl hs hk
   have e25 : a.tmps.getD 25 undef = .pointer (some ⟨m, 0, none⟩) := svv hk 18
   have h0 : σ[1]? = some .none := hs 1 (by decide)
   exact ro_call (f := 39) (wanted_none rfl) rfl (by simp only [List.map_toArray, List.map_cons, List.map_nil, Act.eval, e25] <;> rfl) (fun _ _ => by kernel_rfl) ((CopyG hS (sg (hs 5 (by decide))) HG.out.c0 HG.out.cm HG.out.O.1 (by have h1 := HG.out.O.2.1; have h2 := HG.out.rm; omega)).mono fun e w2 ⟨p2, h1, h2⟩ => ⟨_, h1, sp_set 1 (.grid p2 83 ↑s.cols s.O) (by kernel_rfl) (by simp) (by decide) hl hs (by rfl) (h2.place (sg h0)) ⟨p2, rfl⟩, trivial⟩)
  apply sc
  ·intro a w' vs σ hS hl hs hk
   have e20 : a.tmps.getD 20 undef = vs 13 := sk_val hk 13 (by kernel_rfl) rfl rfl
   have p20 : (fun u : Value => ∃ g2, u = .pointer (some ⟨g2, 0, none⟩)) (vs 13) := (hk.1 13 (by kernel_rfl)).1
   have e26 : a.tmps.getD 26 undef = vs 19 := sk_val hk 19 (by kernel_rfl) rfl rfl
   have p26 : (fun u : Value => ∃ g2, u = .pointer (some ⟨g2, 0, none⟩)) (vs 19) := (hk.1 19 (by kernel_rfl)).1
   obtain ⟨ga, qa⟩ := p20
   obtain ⟨gb, qb⟩ := p26
   have ea := e20.trans qa
   have fa := gd ea
   have eb := e26.trans qb
   have fb := gd eb
   have h0 : σ[0]? = some (.grid (blkOf (vs 13)) 83 ↑s.cols s.M) := hs 0 (by decide)
   have h1 : σ[1]? = some (.grid (blkOf (vs 19)) 83 ↑s.cols s.O) := hs 1 (by decide)
   rw [qa, show blkOf (.pointer (some ⟨ga, 0, none⟩)) = ga from rfl] at h0
   rw [qb, show blkOf (.pointer (some ⟨gb, 0, none⟩)) = gb from rfl] at h1
   have hSS : Objs w0 w' (((σ ++ (ko :: os)).set 0 (.grid ga 83 ↑s.cols s.M)).set 1 (.grid gb 83 ↑s.cols s.O)) := by rw [set_self (sg h0), set_self (sg h1)]; exact hS
   exact rs_run (v' := .agg #[.pointer (some ⟨ga, 0, none⟩), .pointer (some ⟨gb, 0, none⟩)]) (w' := w') (wanted_none rfl) (by simp [execOp, Act.eval, ea, fa, eb, fb, go_sem]) (sp_set2 0 1 (.grid ga 83 ↑s.cols s.M) (.grid gb 83 ↑s.cols s.O) (by decide) (by kernel_rfl) (by simp) (by simp) (by decide) (by decide) hl hs (by rfl) (by rfl) hSS ⟨ga, gb, rfl⟩)
  apply sc
  ·intro a w' vs σ hS hl hs hk
   have f10 : a.tmps[10]?.getD undef = .int .i64 (used24 s.mode) := svf hk 3
   have f14 : a.tmps[14]?.getD undef = .int .i64 s.mode := svf hk 7
   have e27 : a.tmps.getD 27 undef = vs 20 := sk_val hk 20 (by kernel_rfl) rfl rfl
   have p27 : (fun u : Value => ∃ ga gb, u = .agg #[.pointer (some ⟨ga, 0, none⟩), .pointer (some ⟨gb, 0, none⟩)]) (vs 20) := (hk.1 20 (by kernel_rfl)).1
   obtain ⟨ga, gb, qa⟩ := p27
   have ea := e27.trans qa
   have fa := gd ea
   have h0 : σ[0]? = some (.grid (blkOf (fstV (vs 20))) 83 ↑s.cols s.M) := hs 0 (by decide)
   have h1 : σ[1]? = some (.grid (blkOf (sndV (vs 20))) 83 ↑s.cols s.O) := hs 1 (by decide)
   rw [qa, show blkOf (fstV (.agg #[.pointer (some ⟨ga, 0, none⟩), .pointer (some ⟨gb, 0, none⟩)])) = ga from rfl] at h0
   rw [qa, show blkOf (sndV (.agg #[.pointer (some ⟨ga, 0, none⟩), .pointer (some ⟨gb, 0, none⟩)])) = gb from rfl] at h1
   have hSS : Objs w0 w' (((σ ++ (ko :: os)).set 0 (.grid ga 83 ↑s.cols s.M)).set 1 (.grid gb 83 ↑s.cols s.O)) := by rw [set_self (sg h0), set_self (sg h1)]; exact hS
   exact rs_run (v' := .agg #[.pointer (some ⟨ga, 0, none⟩), .pointer (some ⟨gb, 0, none⟩), .int .i64 (used24 s.mode), .int .i64 s.mode, .pointer none]) (w' := w') (wanted_none rfl) (by simp [execOp, Act.eval, f10, f14, ea, fa, go_sem]) (sp_set2 0 1 (.grid ga 83 ↑s.cols s.M) (.grid gb 83 ↑s.cols s.O) (by decide) (by kernel_rfl) (by simp) (by simp) (by decide) (by decide) hl hs (by rfl) (by rfl) hSS ⟨ga, gb, rfl⟩)
  apply sc
  ·intro a w' vs σ hS hl hs hk
   have e28 : a.tmps.getD 28 undef = vs 21 := sk_val hk 21 (by kernel_rfl) rfl rfl
   have p28 : (fun u : Value => ∃ ga gb, u = .agg #[.pointer (some ⟨ga, 0, none⟩), .pointer (some ⟨gb, 0, none⟩), .int .i64 (used24 s.mode), .int .i64 s.mode, .pointer none]) (vs 21) := (hk.1 21 (by kernel_rfl)).1
   obtain ⟨ga, gb, qa⟩ := p28
   have ea := e28.trans qa
   have fa := gd ea
   have h2 : σ[2]? = some .none := hs 2 (by decide)
   exact rs_run (v' := .pointer (some ⟨w'.heap.size, 0, none⟩)) (w' := w'.alloc (.cells #[.pointer (some ⟨ga, 0, none⟩), .pointer (some ⟨gb, 0, none⟩), .int .i64 (used24 s.mode), .int .i64 s.mode, .pointer none] 44)) (wanted_none rfl) (by simp [execOp, Act.eval, ea, fa, go_sem]) (sp_set 2 (.box w'.heap.size 44 #[.pointer (some ⟨ga, 0, none⟩), .pointer (some ⟨gb, 0, none⟩), .int .i64 (used24 s.mode), .int .i64 s.mode, .pointer none]) (by kernel_rfl) (by simp) (by decide) hl hs (by show Ob.box (blkOf (.pointer (some ⟨w'.heap.size, 0, none⟩))) 44 #[fstV (vs 21), sndV (vs 21), .int .i64 (used24 s.mode), .int .i64 s.mode, .pointer none] = _; rw [qa]; rfl) (hS.alloc1.place (sg h2)) ⟨_, rfl⟩)
  apply sc
  ·intro a w' vs σ hS hl hs hk
   have e29 : a.tmps.getD 29 undef = vs 22 := sk_val hk 22 (by kernel_rfl) rfl rfl
   have p29 : (fun u : Value => ∃ g2, u = .pointer (some ⟨g2, 0, none⟩)) (vs 22) := (hk.1 22 (by kernel_rfl)).1
   obtain ⟨ga, qa⟩ := p29
   have ea := e29.trans qa
   have fa := gd ea
   have h2 : σ[2]? = some (.box (blkOf (vs 22)) 44 #[fstV (vs 21), sndV (vs 21), .int .i64 (used24 s.mode), .int .i64 s.mode, .pointer none]) := hs 2 (by decide)
   rw [qa, show blkOf (.pointer (some ⟨ga, 0, none⟩)) = ga from rfl] at h2
   have hSS : Objs w0 w' ((σ ++ (ko :: os)).set 2 (.box ga 44 #[fstV (vs 21), sndV (vs 21), .int .i64 (used24 s.mode), .int .i64 s.mode, .pointer none])) := by rw [set_self (sg h2)]; exact hS
   exact rs_run (v' := .pointer (some ⟨ga, 0, none⟩)) (w' := w') (wanted_none rfl) (by simp [execOp, Act.eval, ea, fa, go_sem]) (sp_set 2 (.box ga 44 #[fstV (vs 21), sndV (vs 21), .int .i64 (used24 s.mode), .int .i64 s.mode, .pointer none]) (by kernel_rfl) (by simp) (by decide) hl hs (by rfl) hSS ⟨ga, rfl⟩)
  exact SSteps.nil
 ·intro vs w' hS hv
  have q0 : vs 0 = _ := hv 0 (by decide)
  have q1 : vs 1 = _ := hv 1 (by decide)
  have q2 : vs 2 = _ := hv 2 (by decide)
  have q3 : vs 3 = _ := hv 3 (by decide)
  have q4 : vs 4 = _ := hv 4 (by decide)
  have q5 : vs 5 = _ := hv 5 (by decide)
  have q6 : vs 6 = _ := hv 6 (by decide)
  have q7 : vs 7 = _ := hv 7 (by decide)
  have q8 : vs 8 = _ := hv 8 (by decide)
  have q9 : vs 9 = _ := hv 9 (by decide)
  have q10 : vs 10 = _ := hv 10 (by decide)
  have q11 : vs 11 = _ := hv 11 (by decide)
  have q12 : vs 12 = _ := hv 12 (by decide)
  have q14 : vs 14 = _ := hv 14 (by decide)
  have q15 : vs 15 = _ := hv 15 (by decide)
  have q16 : vs 16 = _ := hv 16 (by decide)
  have q17 : vs 17 = _ := hv 17 (by decide)
  have q18 : vs 18 = _ := hv 18 (by decide)
  obtain ⟨pc, q23⟩ := (show ∃ g2, vs 23 = .pointer (some ⟨g2, 0, none⟩) from hv 23 (by decide))
  obtain ⟨g2, m2, q21⟩ := (show ∃ ga gb, vs 21 = .agg #[.pointer (some ⟨ga, 0, none⟩), .pointer (some ⟨gb, 0, none⟩), .int .i64 (used24 s.mode), .int .i64 s.mode, .pointer none] from hv 21 (by decide))
  rw [q23, q21] at hS
  have hSn := hS
  have S2 := Lib.hid hS
  simp only [putL, Act.put, Nat.zero_add, Nat.reduceAdd, List.setIfInBounds_toArray, List.set_cons_succ, List.set_cons_zero, q0, q1, q2, q3, q4, q5, q6, q7, q8, q9, q10, q11, q12, q14, q15, q16, q17, q18]
  clear hS hv q0 q1 q2 q3 q4 q5 q6 q7 q8 q9 q10 q11 q12 q14 q15 q16 q17 q18
  have S3 := Lib.hid (show Objs w0 w' (.grid g2 83 ↑s.cols s.M :: .grid m2 83 ↑s.cols s.O :: .box pc 44 #[.pointer (some ⟨g2, 0, none⟩), .pointer (some ⟨m2, 0, none⟩), .int .i64 (used24 s.mode), .int .i64 s.mode, .pointer none] :: .box p 44 #[.pointer (some ⟨g, 0, none⟩), .pointer (some ⟨m, 0, none⟩), .int .i64 (used24 s.mode), .int .i64 s.mode, kv] :: .grid g 83 ↑s.cols s.M :: .grid m 83 ↑s.cols s.O :: ko :: os) from S2.out)
  clear S2 S1 hSn
  simp only [q23]
  clear q23 q21
  cases hk : s.kept with
  | none =>
   obtain rfl : kv = .pointer none := by have h := HK.out; rw [hk] at h; exact h
   obtain ⟨hx, hf, hz⟩ := (S3.out.box (k := 3) rfl).facts
   go_wp2_with fail
   go_ret
   have hA := Objs.closePair (s := s) (p := pc) (g := g2) (m := m2) (kv := .pointer none) (ko := .none) (Objs.pick (σ := [_, _, _, _, _, _, _]) (os := os) S3.out [some 2, some 0, some 1, none, some 3, some 4, some 5, some 6] (by decide) rfl) (by rw [hk]; exact rfl)
   have hB := Objs.closePair (s := s) (p := p) (g := g) (m := m) (kv := .pointer none) (ko := ko) (os := pairO pc s :: os) (Objs.pick (σ := [_, _, _, _, _]) (os := os) hA [some 1, some 2, some 3, some 4, some 0] (by decide) rfl) (by rw [hk]; exact rfl)
   exact ⟨pc, rfl, Objs.swap hB⟩
  | some y =>
   obtain ⟨kp, rfl, rfl⟩ : ∃ kp, kv = .pointer (some ⟨kp, 0, none⟩) ∧ ko = .box kp 35 (sv y) := by have h := HK.out; rw [hk] at h; exact h
   obtain ⟨hx, hf, hz⟩ := (S3.out.box (k := 3) rfl).facts
   obtain ⟨hxk, hfk, hzk, hrk, hpk⟩ := (S3.out.box (k := 6) rfl).saved
   have HKE := Lib.hid hk
   clear hk
   go_upto_region 6 with (fail)
   refine at_objsC (S3.out.alloc1 (c1 := sv y) (t1 := 35)) (fun W hW => ?_)
   generalize w'.heap.size = b4 at hW ⊢
   have S4 := Lib.hid hW
   clear hW S3 hx hf hz hxk hfk hzk hrk hpk
   obtain ⟨hx, hf, hz⟩ := (S4.out.box (k := 3) rfl).facts
   have S5 := Lib.hid (S4.out.setBox 3 (i := 4) (u := .pointer (some ⟨b4, 0, none⟩)) rfl)
   go_wp2_with fail
   go_ret
   have hA := Objs.closePair (s := s) (p := pc) (g := g2) (m := m2) (kv := .pointer (some ⟨b4, 0, none⟩)) (ko := .box b4 35 (sv y)) (Objs.pick (σ := [_, _, _, _, _, _, _, _]) (os := os) S5.out [some 3, some 1, some 2, some 0, some 4, some 5, some 6, some 7] (by decide) rfl) (by rw [HKE.out]; exact ⟨b4, rfl, rfl⟩)
   have hB := Objs.closePair (s := s) (p := p) (g := g) (m := m) (kv := .pointer (some ⟨kp, 0, none⟩)) (ko := .box kp 35 (sv y)) (os := pairO pc s :: os) (Objs.pick (σ := [_, _, _, _, _]) (os := os) hA [some 1, some 2, some 3, some 4, some 0] (by decide) rfl) (by rw [HKE.out]; exact ⟨kp, rfl, rfl⟩)
   exact ⟨pc, rfl, Objs.swap hB⟩
end
end Go.Proofs.YtdndoikgnohkkaaDoor

set_option linter.constructorNameAsVariable false
set_option maxRecDepth 100000
namespace Go.Proofs.YtdndoikgnohkkaaDoor
open Go.ChangeShapes Go.WideShapes Go.ChangeAt Go.RowKit Go.Deep Go.WideElems

instance : Inhabited Act24 := ⟨⟨0, 0, 0, 0, cell0, saved0, pen0, none, 0, []⟩⟩
theorem list18 {α : Type} {l : List α} (h : l.length = 18) : ∃ c0 c1 c2 c3 c4 c5 c6 c7 c8 c9 c10 c11 c12 c13 c14 c15 c16 c17 : α, l = [c0, c1, c2, c3, c4, c5, c6, c7, c8, c9, c10, c11, c12, c13, c14, c15, c16, c17] := by
 obtain ⟨c0, r0, rfl, h0⟩ := list1 h
 obtain ⟨c1, r1, rfl, h1⟩ := list1 h0
 obtain ⟨c2, r2, rfl, h2⟩ := list1 h1
 obtain ⟨c3, r3, rfl, h3⟩ := list1 h2
 obtain ⟨c4, r4, rfl, h4⟩ := list1 h3
 obtain ⟨c5, r5, rfl, h5⟩ := list1 h4
 obtain ⟨c6, r6, rfl, h6⟩ := list1 h5
 obtain ⟨c7, r7, rfl, h7⟩ := list1 h6
 obtain ⟨c8, r8, rfl, h8⟩ := list1 h7
 obtain ⟨c9, r9, rfl, h9⟩ := list1 h8
 obtain ⟨c10, r10, rfl, h10⟩ := list1 h9
 obtain ⟨c11, r11, rfl, h11⟩ := list1 h10
 obtain ⟨c12, r12, rfl, h12⟩ := list1 h11
 obtain ⟨c13, r13, rfl, h13⟩ := list1 h12
 obtain ⟨c14, r14, rfl, h14⟩ := list1 h13
 obtain ⟨c15, r15, rfl, h15⟩ := list1 h14
 obtain ⟨c16, r16, rfl, h16⟩ := list1 h15
 obtain ⟨c17, r17, rfl, h17⟩ := list1 h16
 obtain rfl := List.length_eq_zero_iff.1 h17
 exact ⟨c0, c1, c2, c3, c4, c5, c6, c7, c8, c9, c10, c11, c12, c13, c14, c15, c16, c17, rfl⟩
theorem list50 {α : Type} {l : List α} (h : l.length = 50) : ∃ c0 c1 c2 c3 c4 c5 c6 c7 c8 c9 c10 c11 c12 c13 c14 c15 c16 c17 c18 c19 c20 c21 c22 c23 c24 c25 c26 c27 c28 c29 c30 c31 c32 c33 c34 c35 c36 c37 c38 c39 c40 c41 c42 c43 c44 c45 c46 c47 c48 c49 : α, l = [c0, c1, c2, c3, c4, c5, c6, c7, c8, c9, c10, c11, c12, c13, c14, c15, c16, c17, c18, c19, c20, c21, c22, c23, c24, c25, c26, c27, c28, c29, c30, c31, c32, c33, c34, c35, c36, c37, c38, c39, c40, c41, c42, c43, c44, c45, c46, c47, c48, c49] := by
 obtain ⟨c0, r0, rfl, h0⟩ := list1 h
 obtain ⟨c1, r1, rfl, h1⟩ := list1 h0
 obtain ⟨c2, r2, rfl, h2⟩ := list1 h1
 obtain ⟨c3, r3, rfl, h3⟩ := list1 h2
 obtain ⟨c4, r4, rfl, h4⟩ := list1 h3
 obtain ⟨c5, r5, rfl, h5⟩ := list1 h4
 obtain ⟨c6, r6, rfl, h6⟩ := list1 h5
 obtain ⟨c7, r7, rfl, h7⟩ := list1 h6
 obtain ⟨c8, r8, rfl, h8⟩ := list1 h7
 obtain ⟨c9, r9, rfl, h9⟩ := list1 h8
 obtain ⟨c10, r10, rfl, h10⟩ := list1 h9
 obtain ⟨c11, r11, rfl, h11⟩ := list1 h10
 obtain ⟨c12, r12, rfl, h12⟩ := list1 h11
 obtain ⟨c13, r13, rfl, h13⟩ := list1 h12
 obtain ⟨c14, r14, rfl, h14⟩ := list1 h13
 obtain ⟨c15, r15, rfl, h15⟩ := list1 h14
 obtain ⟨c16, r16, rfl, h16⟩ := list1 h15
 obtain ⟨c17, r17, rfl, h17⟩ := list1 h16
 obtain ⟨c18, r18, rfl, h18⟩ := list1 h17
 obtain ⟨c19, r19, rfl, h19⟩ := list1 h18
 obtain ⟨c20, r20, rfl, h20⟩ := list1 h19
 obtain ⟨c21, r21, rfl, h21⟩ := list1 h20
 obtain ⟨c22, r22, rfl, h22⟩ := list1 h21
 obtain ⟨c23, r23, rfl, h23⟩ := list1 h22
 obtain ⟨c24, r24, rfl, h24⟩ := list1 h23
 obtain ⟨c25, r25, rfl, h25⟩ := list1 h24
 obtain ⟨c26, r26, rfl, h26⟩ := list1 h25
 obtain ⟨c27, r27, rfl, h27⟩ := list1 h26
 obtain ⟨c28, r28, rfl, h28⟩ := list1 h27
 obtain ⟨c29, r29, rfl, h29⟩ := list1 h28
 obtain ⟨c30, r30, rfl, h30⟩ := list1 h29
 obtain ⟨c31, r31, rfl, h31⟩ := list1 h30
 obtain ⟨c32, r32, rfl, h32⟩ := list1 h31
 obtain ⟨c33, r33, rfl, h33⟩ := list1 h32
 obtain ⟨c34, r34, rfl, h34⟩ := list1 h33
 obtain ⟨c35, r35, rfl, h35⟩ := list1 h34
 obtain ⟨c36, r36, rfl, h36⟩ := list1 h35
 obtain ⟨c37, r37, rfl, h37⟩ := list1 h36
 obtain ⟨c38, r38, rfl, h38⟩ := list1 h37
 obtain ⟨c39, r39, rfl, h39⟩ := list1 h38
 obtain ⟨c40, r40, rfl, h40⟩ := list1 h39
 obtain ⟨c41, r41, rfl, h41⟩ := list1 h40
 obtain ⟨c42, r42, rfl, h42⟩ := list1 h41
 obtain ⟨c43, r43, rfl, h43⟩ := list1 h42
 obtain ⟨c44, r44, rfl, h44⟩ := list1 h43
 obtain ⟨c45, r45, rfl, h45⟩ := list1 h44
 obtain ⟨c46, r46, rfl, h46⟩ := list1 h45
 obtain ⟨c47, r47, rfl, h47⟩ := list1 h46
 obtain ⟨c48, r48, rfl, h48⟩ := list1 h47
 obtain ⟨c49, r49, rfl, h49⟩ := list1 h48
 obtain rfl := List.length_eq_zero_iff.1 h49
 exact ⟨c0, c1, c2, c3, c4, c5, c6, c7, c8, c9, c10, c11, c12, c13, c14, c15, c16, c17, c18, c19, c20, c21, c22, c23, c24, c25, c26, c27, c28, c29, c30, c31, c32, c33, c34, c35, c36, c37, c38, c39, c40, c41, c42, c43, c44, c45, c46, c47, c48, c49, rfl⟩
section
variable {H : Type} {enc : TypeId × Value → H}
theorem cells_act24 : Tryd.prog.cellsOf 66 = 50 := by kernel_rfl
theorem cells_put24 : Tryd.prog.cellsOf 63 = 18 := by kernel_rfl
theorem cells_lines24 : Tryd.prog.cellsOf 64 = 1 := by kernel_rfl
theorem trod_lines24 {w : World} {fuel : Nat} {cs : List Value} {x : DataW H × List MemPlace} {hd : Bool} (h : DataW.trod enc Tryd.prog w 0 (fun _ => true) hd fuel 64 cs = some x) : ∃ (A : Option Addr) (c : Nat) (L : List Ln), cs = [.slice A L.length c] ∧ RdL w A c L ∧ c ≤ maxLen ∧ ∀ l ∈ L, l.1.length ≤ maxLen := by
 obtain ⟨A, c, l, rfl, h2, h3, h4⟩ := trod_recs (Pr := fun a : ALine => RdC w a.A a.c a.cs ∧ a.c ≤ maxLen) alv Tryd.underlying64 cells_line (by decide) alv_size (fun fuel cs' x' h => by obtain ⟨A, c, l, s, he, hr, hm⟩ := trod_line h; exact ⟨⟨A, c, l, s⟩, he, hr, hm⟩) h
 refine ⟨A, c, l.map fun a => (a.cs, a.s), by simp, rdl_of h2 h4, h3, fun x hx => ?_⟩
 obtain ⟨a, ha, rfl⟩ := List.mem_map.1 hx
 exact Nat.le_trans (h4 a ha).1.1 (h4 a ha).2
theorem trod_put24 {w : World} {base : Nat} {sp : Nat → Bool} {fuel : Nat} {cs : List Value} {x : DataW H × List MemPlace} {hd : Bool} (h : DataW.trod enc Tryd.prog w base sp hd fuel 63 cs = some x) : ∃ (a b : Int) (y : Cell), cs = (pw a b y).toList := by
 obtain ⟨xs, n, _, _, hlen, hxl, hf⟩ := DataW.trod_struct Tryd.underlying63 h
 rw [cells_put24] at hlen
 have h0 : DataW.trod enc Tryd.prog w base sp hd n 3 ((cs.drop 0).take (Tryd.prog.cellsOf 3)) = xs[0]? := hf 0 _ rfl
 have h1 : DataW.trod enc Tryd.prog w base sp hd n 3 ((cs.drop 1).take (Tryd.prog.cellsOf 3)) = xs[1]? := hf 1 _ rfl
 have h2 : DataW.trod enc Tryd.prog w base sp hd n 61 ((cs.drop 2).take (Tryd.prog.cellsOf 61)) = xs[2]? := hf 2 _ rfl
 obtain ⟨z2, e2⟩ := some_of (show (xs[2]?).isSome = true by simp [hxl])
 simp only [cells_int, cells_cell14] at h0 h1 h2
 obtain ⟨y, hy⟩ := trod_cell (h2.trans e2)
 obtain ⟨c0, c1, c2, c3, c4, c5, c6, c7, c8, c9, c10, c11, c12, c13, c14, c15, c16, c17, rfl⟩ := list18 hlen
 simp only [List.drop_zero, List.drop_succ_cons, List.take_succ_cons, List.take_zero] at h0 h1 hy
 obtain ⟨n0, rfl⟩ := num_field Tryd.underlying3 (by simp [hxl]) h0
 obtain ⟨n1, rfl⟩ := num_field Tryd.underlying3 (by simp [hxl]) h1
 simp only [cv, List.cons.injEq, and_true] at hy
 obtain ⟨rfl, rfl, rfl, rfl, rfl, rfl, rfl, rfl, rfl, rfl, rfl, rfl, rfl, rfl, rfl, rfl⟩ := hy
 exact ⟨n0, n1, y, rfl⟩
theorem trod_act24 {w : World} {fuel : Nat} {cs : List Value} {x : DataW H × List MemPlace} {hd : Bool} (h : DataW.trod enc Tryd.prog w 0 (fun _ => true) hd fuel 66 cs = some x) : ∃ a : Act24, cs = (av24 a).toList ∧ Ok24 w a := by
 obtain ⟨xs, n, _, _, hlen, hxl, hf⟩ := DataW.trod_struct Tryd.underlying66 h
 rw [cells_act24] at hlen
 have h0 : DataW.trod enc Tryd.prog w 0 (fun _ => true) hd n 3 ((cs.drop 0).take (Tryd.prog.cellsOf 3)) = xs[0]? := hf 0 _ rfl
 have h1 : DataW.trod enc Tryd.prog w 0 (fun _ => true) hd n 3 ((cs.drop 1).take (Tryd.prog.cellsOf 3)) = xs[1]? := hf 1 _ rfl
 have h2 : DataW.trod enc Tryd.prog w 0 (fun _ => true) hd n 63 ((cs.drop 2).take (Tryd.prog.cellsOf 63)) = xs[2]? := hf 2 _ rfl
 have h3 : DataW.trod enc Tryd.prog w 0 (fun _ => true) hd n 35 ((cs.drop 20).take (Tryd.prog.cellsOf 35)) = xs[3]? := hf 3 _ rfl
 have h4 : DataW.trod enc Tryd.prog w 0 (fun _ => true) hd n 29 ((cs.drop 38).take (Tryd.prog.cellsOf 29)) = xs[4]? := hf 4 _ rfl
 have h5 : DataW.trod enc Tryd.prog w 0 (fun _ => true) hd n 64 ((cs.drop 49).take (Tryd.prog.cellsOf 64)) = xs[5]? := hf 5 _ rfl
 obtain ⟨z2, e2⟩ := some_of (show (xs[2]?).isSome = true by simp [hxl])
 obtain ⟨z3, e3⟩ := some_of (show (xs[3]?).isSome = true by simp [hxl])
 obtain ⟨z4, e4⟩ := some_of (show (xs[4]?).isSome = true by simp [hxl])
 obtain ⟨z5, e5⟩ := some_of (show (xs[5]?).isSome = true by simp [hxl])
 simp only [cells_int, cells_put24, cells_saved, cells_pen, cells_lines24] at h0 h1 h2 h3 h4 h5
 obtain ⟨a, b, y, hp⟩ := trod_put24 (h2.trans e2)
 obtain ⟨s, hs⟩ := trod_saved (h3.trans e3)
 obtain ⟨q, hq⟩ := trod_pen (h4.trans e4)
 obtain ⟨A, c, L, hl, hr, hm, hlm⟩ := trod_lines24 (h5.trans e5)
 obtain ⟨c0, c1, c2, c3, c4, c5, c6, c7, c8, c9, c10, c11, c12, c13, c14, c15, c16, c17, c18, c19, c20, c21, c22, c23, c24, c25, c26, c27, c28, c29, c30, c31, c32, c33, c34, c35, c36, c37, c38, c39, c40, c41, c42, c43, c44, c45, c46, c47, c48, c49, rfl⟩ := list50 hlen
 simp only [List.drop_zero, List.drop_succ_cons, List.take_succ_cons, List.take_zero] at h0 h1 hp hs hq hl
 obtain ⟨n0, rfl⟩ := num_field Tryd.underlying3 (by simp [hxl]) h0
 obtain ⟨n1, rfl⟩ := num_field Tryd.underlying3 (by simp [hxl]) h1
 simp only [pw, List.cons.injEq, and_true] at hp
 obtain ⟨rfl, rfl, rfl, rfl, rfl, rfl, rfl, rfl, rfl, rfl, rfl, rfl, rfl, rfl, rfl, rfl, rfl, rfl⟩ := hp
 simp only [sv, List.cons.injEq, and_true] at hs
 obtain ⟨rfl, rfl, rfl, rfl, rfl, rfl, rfl, rfl, rfl, rfl, rfl, rfl, rfl, rfl, rfl, rfl, rfl, rfl⟩ := hs
 simp only [pv, List.cons.injEq, and_true] at hq
 obtain ⟨rfl, rfl, rfl, rfl, rfl, rfl, rfl, rfl, rfl, rfl, rfl⟩ := hq
 simp only [List.cons.injEq, and_true] at hl
 subst hl
 exact ⟨⟨n0, n1, a, b, y, s, q, A, c, L⟩, rfl, hr, hm, hlm⟩
theorem open_acts24 {v : Value} {w : World} {r : Reach} {b0 : Nat} {hd : Bool} {d : DataW H} {p : List MemPlace} (hv : Value.okWide Tryd.prog w r b0 57 v) (h : DataW.Trod enc Tryd.prog w 0 (fun _ => true) hd 57 v d p) : ∃ (A : Option Addr) (c : Nat) (l : List Act24), v = .slice A l.length c ∧ RdRec w A c 50 (l.map av24) ∧ c ≤ maxLen ∧ ∀ a ∈ l, Ok24 w a :=
 open_recs (Pr := fun a => Ok24 w a) av24 Tryd.underlying57 cells_act24 (by decide) av24_size (fun fuel cs' x' h => trod_act24 h) hv h
end
end Go.Proofs.YtdndoikgnohkkaaDoor

set_option linter.constructorNameAsVariable false
set_option maxRecDepth 100000
namespace Go.Proofs.YtdndoikgnohkkaaDoor
open Go.ChangeShapes Go.WideShapes Go.ChangeAt Go.RowKit Go.Deep Go.WideElems

theorem own_knob : ownKnob Tryd.prog.godebug = none := by kernel_rfl
theorem laid_out : laidOutB Tryd.prog = true := by kernel_rfl
def pairData {H : Type} (x : Int × Int) : DataW H := .agg [.lit (.int .i32 x.1), .lit (.int .i32 x.2)]
theorem cells_pair : Tryd.prog.cellsOf 138 = 2 := by kernel_rfl
section
variable {H : Type} {enc : TypeId × Value → H} {w : World} {base : Nat} {sp : Nat → Bool} {hd : Bool} {fuel : Nat} {cs : List Value}
theorem num_lit {t : TypeId} {c : Value} {n : Int} {p : List MemPlace} (ht : Tryd.prog.underlying t = some (.int .i32)) (h : DataW.trod enc Tryd.prog w base sp hd fuel t [c] = some (.lit (.int .i32 n), p)) : c = .int .i32 n := by
 obtain ⟨m, hm, hx, _⟩ := DataW.trod_int ht h
 simp only [Prod.mk.injEq, DataW.lit.injEq, Lit.int.injEq, true_and] at hx
 simp only [List.cons.injEq, and_true] at hm
 rw [hm, hx.1]
theorem trod_pair {x : Int × Int} {p : List MemPlace} (h : DataW.trod enc Tryd.prog w base sp hd fuel 138 cs = some (pairData x, p)) : cs = [.int .i32 x.1, .int .i32 x.2] := by
 obtain ⟨xs, n, _, hx, hlen, hxl, hf⟩ := DataW.trod_array Tryd.underlying138 h
 rw [cells_pair] at hlen
 match cs, hlen, xs, hxl, hf, hx with
 | [c0, c1], _, [y0, y1], _, hf, hx =>
  have h0 := hf 0 (by omega)
  have h1 := hf 1 (by omega)
  simp only [cells_i32, Nat.zero_mul, Nat.one_mul, List.drop_zero, List.drop_succ_cons, List.take_succ_cons, List.take_zero, List.getElem?_cons_zero, List.getElem?_cons_succ] at h0 h1
  simp only [pairData, List.map_cons, List.map_nil, Prod.mk.injEq, DataW.agg.injEq, List.cons.injEq, and_true] at hx
  obtain ⟨y0a, y0b⟩ := y0
  obtain ⟨y1a, y1b⟩ := y1
  obtain ⟨⟨e0, e1⟩, _⟩ := hx
  simp only at e0 e1
  subst e0 e1
  rw [num_lit Tryd.underlying21 h0, num_lit Tryd.underlying21 h1]
theorem trod_table {t : TypeId} {tab : List (Int × Int)} {p : List MemPlace} (ht : Tryd.prog.underlying t = some (.array tab.length 138)) (h : DataW.trod enc Tryd.prog w base sp hd fuel t cs = some (.agg (tab.map pairData), p)) :
  ∀ k, k < tab.length → cs[k * 2]? = some (.int .i32 (loOf tab k)) ∧ cs[k * 2 + 1]? = some (.int .i32 (hiOf tab k)) := by
 obtain ⟨xs, n, _, hx, hlen, hxl, hf⟩ := DataW.trod_array ht h
 intro k hk
 have hkf := hf k hk
 rw [cells_pair] at hkf
 have hk2 : k < xs.length := by omega
 rw [List.getElem?_eq_getElem hk2] at hkf
 simp only [Prod.mk.injEq, DataW.agg.injEq] at hx
 have he : xs[k].1 = pairData tab[k] := by
  have := congrArg (fun l => l[k]?) hx.1
  simp only [List.getElem?_map, List.getElem?_eq_getElem hk, List.getElem?_eq_getElem hk2, Option.map_some, Option.some.injEq] at this
  exact this.symm
 have hp := trod_pair (x := tab[k]) (p := xs[k].2) (by rw [hkf, ← he])
 have g0 := congrArg (fun l => l[0]?) hp
 have g1 := congrArg (fun l => l[1]?) hp
 simp only [List.getElem?_take, List.getElem?_drop, List.getElem?_cons_zero, List.getElem?_cons_succ, Nat.add_zero] at g0 g1
 simp only [loOf, hiOf, List.getD_eq_getElem?_getD, List.getElem?_eq_getElem hk, Option.getD_some]
 exact ⟨by simpa using g0, by simpa using g1⟩
end
theorem pairs_of {W : World} {name : String} {g : Nat} {t : TypeId} {tab : List (Int × Int)} {cs : Array Value} {fuel : Nat} {p : List MemPlace} {base : Nat} {sp : Nat → Bool} {hd : Bool} {H : Type} {enc : TypeId × Value → H} (hg : Tryd.prog.globalNamed name = some g) (ht : Tryd.prog.underlying t = some (.array tab.length 138))
  (hv : W.var? Tryd.prog name = some cs) (h : DataW.trod enc Tryd.prog W base sp hd fuel t cs.toList = some (.agg (tab.map pairData), p)) (hn : 0 < tab.length) : Pairs W g tab.length (loOf tab) (hiOf tab) := by
 have hc := World.var?_cell hg hv
 have htb := trod_table ht h
 refine ⟨?_, fun k hk => ?_⟩
 ·have := (htb 0 hn).1
  have h0 := hc 0
  simp only [Nat.zero_mul, Array.getElem?_toList] at this
  rw [this] at h0
  exact block_lt_of_cell h0
 ·obtain ⟨h1, h2⟩ := htb k hk
  rw [hc, hc]
  exact ⟨by simpa using h1, by simpa using h2⟩
theorem tabs_of {W : World} (h : laidMetH Tryd.prog Rows.alternateNilRow.laid W) : Tabs W := by
 have h' : laidMet Tryd.prog Rows.alternateNilRow.laid W := h
 obtain ⟨ps, ⟨g, t, cs, fuel, p, q, hg, ht, hv, hd, ⟨g2, t2, cs2, fuel2, p2, q2, hg2, ht2, hv2, hd2, _⟩, _⟩, _⟩ := h'
 have e1 : Tryd.prog.globalNamed "scrollback/width.marks" = some 0 := by kernel_rfl
 have e2 : Tryd.prog.globalNamed "scrollback/width.wide" = some 1 := by kernel_rfl
 obtain rfl := Option.some.inj (e1.symm.trans hg)
 obtain rfl := Option.some.inj (e2.symm.trans hg2)
 have f1 : (Tryd.prog.globals[0]?).map (·.type) = some 139 := by kernel_rfl
 have f2 : (Tryd.prog.globals[1]?).map (·.type) = some 140 := by kernel_rfl
 obtain rfl := Option.some.inj (f1.symm.trans ht)
 obtain rfl := Option.some.inj (f2.symm.trans ht2)
 exact ⟨pairs_of (tab := marksTab) e1 Tryd.underlying139 hv hd (by decide), pairs_of (tab := wideTab) e2 Tryd.underlying140 hv2 hd2 (by decide)⟩
def setTab (n : Nat) (tab : List (Int × Int)) (h : Array Obj) : Array Obj := h.modify n fun
 | .cells _ t frozen => .cells (tab.flatMap fun x => [Value.int .i32 x.1, Value.int .i32 x.2]).toArray t frozen
 | o => o
noncomputable def laidWorld (os : Os) : World :=
 { World.holding Tryd.prog os ⟨#[], #[], []⟩ with heap := setTab 1 wideTab (setTab 0 marksTab (World.holding Tryd.prog os ⟨#[], #[], []⟩).heap) }
end Go.Proofs.YtdndoikgnohkkaaDoor
