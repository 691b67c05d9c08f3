/-
  PrinterPlays: the law returns true.
-/
import Derived.Test.YtppijfjigcoifaaDoorR5
set_option linter.unusedSimpArgs false
set_option linter.unusedVariables false
namespace Go.Proofs.YtppijfjigcoifaaDoor
open Go.RowKit

theorem two_call {P : Program} {f : FuncId} {args : Array Value} {k k2 : Nat} {o1 o2 o1' o2' : Ob} {r : Value} {w0 w : World} {os : List Ob} (hS : Objs w0 w os) (hk : os[k]? = some o1) (hk2 : os[k2]? = some o2) (hne : k ≠ k2)
  (hc : ∀ rest, Objs w0 w (o1 :: o2 :: rest) → Calls P f args w fun e w' => e = .returned r ∧ Objs w0 w' (o1' :: o2' :: rest)) : Calls P f args w fun e w' => e = .returned r ∧ Objs w0 w' ((os.set k o1').set k2 o2') := by
 have g1 : (o2 :: os.set k2 .none)[k + 1]? = some o1 := by simpa [List.getElem?_set_ne (Ne.symm hne)] using hk
 have g2 : (o2' :: os.set k2 .none)[k + 1]? = some o1 := by simpa [List.getElem?_set_ne (Ne.symm hne)] using hk
 have g3 : (os.set k o1')[k2]? = some o2 := by rw [List.getElem?_set_ne hne]; exact hk2
 refine (hc _ ((hS.lift hk2).lift g1)).mono fun e w' ⟨h1, h2⟩ => ⟨h1, ?_⟩
 have h3 := Objs.lower g2 (show Objs w0 w' (o1' :: (o2' :: os.set k2 .none).set (k + 1) .none) from h2)
 refine Objs.lower g3 ?_
 rw [← List.set_comm _ _ (Ne.symm hne)]
 exact h3
set_option maxRecDepth 100000 in
set_option maxHeartbeats 8000000 in
theorem l16PrinterPlays_any (rows cols : Int) (Al : Option Addr) (cl : Nat) (l : List Act16) (w : World) (hT : Tabs w) (hal : RdRec w Al cl 16 (l.map av16)) (hml : cl ≤ maxLen) :
  Calls Tryd.prog 6 #[.int .i64 rows, .int .i64 cols, .slice Al l.length cl] w fun e w' => e = .returned (.bool true) ∧ Below w.heap.size w w' := by
 have HT := Lib.hid hT
 have HAL := Lib.hid hal
 have hlm : l.length ≤ 9223372036854775807 := by have := hal.1; unfold maxLen at hml; simp at this; omega
 clear hT hal hml
 have hcases : (rows < 1 ∨ (1 ≤ rows ∧ 6 < rows) ∨ ((1 ≤ rows ∧ rows ≤ 6) ∧ cols < 1) ∨ ((1 ≤ rows ∧ rows ≤ 6) ∧ 1 ≤ cols ∧ 12 < cols) ∨ ((1 ≤ rows ∧ rows ≤ 6) ∧ (1 ≤ cols ∧ cols ≤ 12) ∧ 60 < (l.length : Int))) ∨ ((1 ≤ rows ∧ rows ≤ 6) ∧ (1 ≤ cols ∧ cols ≤ 12) ∧ (l.length : Int) ≤ 60) := by omega
 rcases hcases with hno | ⟨⟨h1, h2⟩, ⟨h3, h4⟩, h5⟩
 ·rcases hno with h | ⟨h, h2⟩ | ⟨⟨h, h2⟩, h3⟩ | ⟨⟨h, h2⟩, h3, h4⟩ | ⟨⟨h, h2⟩, ⟨h3, h4⟩, h5⟩
  all_goals
   go_enter Tryd.func6, Tryd.ntmps6
   go_wp2_with fail
   refine (l16known_any _ HT.out).mono ?_
   rintro e w1 ⟨rfl, hb⟩
   go_wp2_with fail
   go_ret
   exact ⟨rfl, hb⟩
 obtain ⟨rr, rfl⟩ : ∃ rr : Nat, rows = rr := ⟨rows.toNat, by omega⟩
 obtain ⟨s, rfl⟩ : ∃ s : Nat, cols = s := ⟨cols.toNat, by omega⟩
 have g1 : 1 ≤ rr := by omega
 have g2 : rr ≤ 6 := by omega
 have g3 : 1 ≤ s := by omega
 have g4 : s ≤ 12 := by omega
 have hc0 : 0 < s := by omega
 have hcm0 : s ≤ 1000 := by omega
 go_enter Tryd.func6, Tryd.ntmps6
 go_wp2_with fail
 refine (gridNew_yes rr s g1 (by omega) g3 (by omega) w _ [] (objs_start w)).mono ?_
 rintro e w1 ⟨p, rfl, hS⟩
 have S1 := Lib.hid hS
 clear hS
 go_wp2_with fail
 refine (r14New_any rr s (by omega) (by omega) w _ _ S1.out).mono ?_
 rintro e w2 ⟨x, rfl, hS⟩
 obtain ⟨L0, hL0⟩ : ∃ L0, L0 = List.replicate rr (List.replicate s (blank pen0), false) := ⟨_, rfl⟩
 have HK0 := Lib.hid (show Kept14 s rr L0 by rw [hL0]; exact kept14_new s rr)
 rw [← hL0] at hS
 have S2 := Lib.hid hS.swap
 clear hS S1 hL0
 go_upto_region 8 with (fail)
 refine at_objsC (S2.out.alloc1 (c1 := #[.int .i64 0, .int .i64 0, .bool false]) (t1 := 48)) (fun W hW => ?_)
 generalize w2.heap.size = b10 at hW ⊢
 have S3 := Lib.hid (show Objs w W [.grid p 58 ↑s L0, .grid x 33 ↑s L0, .box b10 48 #[.int .i64 0, .int .i64 0, .bool false]] from (Objs.pick (σ := [_, _, _]) (os := []) hW [some 1, some 2, some 0] (by decide) rfl))
 have HI0 := Lib.hid (show inG ((0 : Nat) : Int) ((0 : Nat) : Int) false rr s = true from ingrid_iff.2 ⟨by omega, by omega, by simp⟩)
 clear hW S2
 go_wp2_with fail
 go_loopw [11, 12, 13] (fun vi _ _ wr => ∃ (k i j : Nat) (pd : Bool) (L0 : List Ln), k ≤ l.length ∧ vi = .int .i64 k ∧ Hid (inG i j pd rr s = true) ∧ Hid (Kept14 s rr L0) ∧ Objs w wr [.grid p 58 ↑s L0, .grid x 33 ↑s L0, .box b10 48 #[.int .i64 ↑i, .int .i64 ↑j, .bool pd]]) (fun vi _ _ _ => l.length - (intOf vi).toNat)
 case atStart => exact ⟨0, 0, 0, false, L0, Nat.zero_le _, rfl, HI0, HK0, S3.out⟩
 case round =>
  clear S3 HK0 HI0 L0
  obtain ⟨k, i, j, pd, L0, hk, rfl, HI0, HK0, hS⟩ := hrel
  have S := Lib.hid hS
  clear hS
  by_cases hlt : k < l.length
  case neg =>
   go_wp2_with fail
   refine (l16known_any _ (S.out.tabs HT.out)).mono ?_
   rintro e w4 ⟨rfl, hb⟩
   have HB := Lib.hid (S.out.bel hb).base
   clear hb
   go_wp2_with fail
   go_ret
   exact ⟨rfl, HB.out⟩
  obtain ⟨a1, ha1⟩ : ∃ a1, a1 = l[k] := ⟨_, rfl⟩
  obtain ⟨ba, oa, rfl, hba, hre⟩ := HAL.out.at_ (i := k) (r := av16 a1) (by simp [hlt, ha1])
  have HRE := Lib.hid hre
  have hlz : (0 : Int) ≤ (k : Int) := by omega
  have hlz2 : (k : Int) < (l.length : Int) := by omega
  have hL0p : 0 < L0.length := by rw [HK0.out.2.1]; omega
  have hL0m : L0.length ≤ 1000 := by rw [HK0.out.2.1]; omega
  obtain ⟨i2, j2, pd2, L1, ⟨q1, q2, q3, q4⟩, hd⟩ := l16does_all (w0 := w) (p := p) (p2 := x) (i := i) (j := j) (pend := pd) a1 HT.out hc0 hcm0 hL0p hL0m HK0.out.1 HK0.out.2.2 (by rw [HK0.out.2.1]; exact HI0.out)
  have HD := Lib.hid hd
  have HK1 := Lib.hid (show Kept14 s rr L1 from ⟨q3, q2.trans HK0.out.2.1, q4⟩)
  have HI1 := Lib.hid (show inG i2 j2 pd2 rr s = true by rw [← HK0.out.2.1]; exact q1)
  have hL1m : L1.length ≤ 1000 := by rw [HK1.out.2.1]; omega
  clear hre ha1 hd q1 q2 q3 q4
  go_upto_region 11 with (fail)
  refine wp_region_stage (w0 := w) (os := []) (by kernel_rfl) (by kernel_rfl) (by kernel_rfl) [(1, 7, [], fun vs => .grid p 58 ↑s L1), (2, 7, [], fun vs => .grid x 33 ↑s L1), (0, 11, [11], fun vs => .box (blkOf (vs 11)) 48 #[.int .i64 0, .int .i64 0, .bool false]), (0, 12, [11], fun vs => .box (blkOf (vs 11)) 48 #[.int .i64 ↑i2, .int .i64 ↑j2, .bool pd2])] [[], [], [3], [], [], [], [], [1, 2], [], [], [], [0], [0], []] [.none, .grid p 58 ↑s L0, .grid x 33 ↑s L0, .box b10 48 #[.int .i64 ↑i, .int .i64 ↑j, .bool pd]] (fun opn u => match opn with | 0 => u = pt p 0 | 1 => u = pt x 0 | 2 => u = .agg #[.int .i64 ↑i, .int .i64 ↑j, .bool pd] | 3 => u = .slice (some ⟨ba, oa, none⟩) l.length cl | 4 => u = .int .i64 ↑k | 5 => u = pt ba (oa + k * 16) | 6 => u = .agg (av16 a1) | 7 => u = .tuple #[.agg #[.int .i64 ↑i2, .int .i64 ↑j2, .bool pd2], .bool true] | 8 => u = .tuple #[.agg #[.int .i64 ↑i2, .int .i64 ↑j2, .bool pd2], .bool true] | 9 => u = .agg #[.int .i64 ↑i2, .int .i64 ↑j2, .bool pd2] | 10 => u = .bool true | 11 => ∃ g, u = pt g 0 | 12 => True | 13 => u = .bool true | _ => True) (fun vs => [.box (blkOf (vs 11)) 48 #[.int .i64 ↑i2, .int .i64 ↑j2, .bool pd2], .grid p 58 ↑s L1, .grid x 33 ↑s L1, .box b10 48 #[.int .i64 ↑i, .int .i64 ↑j, .bool pd]]) (by kernel_rfl) (fun vs => by rfl) S.out.pad ?_ ?_
  ·apply sc
   ·intro a w' vs σ hS hl hs hk
    have f7 : a.tmps[7]?.getD undef = .pointer (some ⟨p, 0, none⟩) := sof hk
    exact rp (pt p 0) (by simp [execOp, Act.eval, f7, go_sem]) hl hs hS
   apply sc
   ·intro a w' vs σ hS hl hs hk
    have f9 : a.tmps[9]?.getD undef = .pointer (some ⟨x, 0, none⟩) := sof hk
    exact rp (pt x 0) (by simp [execOp, Act.eval, f9, go_sem]) hl hs hS
   apply sc
   ·intro a w' vs σ hS hl hs hk
    have f10 : a.tmps[10]?.getD undef = .pointer (some ⟨b10, 0, none⟩) := sof hk
    have hx := (hS.box (sg (hs 3 (by decide)))).cell
    exact rp (.agg #[.int .i64 ↑i, .int .i64 ↑j, .bool pd]) (by simp [execOp, Act.eval, f10, go_sem, hx]) hl hs hS
   apply sc
   ·intro a w' vs σ hS hl hs hk
    have f2 : a.tmps[2]?.getD undef = .slice (some ⟨ba, oa, none⟩) l.length cl := sof hk
    exact rp (.slice (some ⟨ba, oa, none⟩) l.length cl) (by simp [execOp, Act.eval, f2, go_sem]) hl hs hS
   apply sc
   ·intro a w' vs σ hS hl hs hk
    have f11 : a.tmps[11]?.getD undef = .int .i64 ↑k := sof hk
    exact rp (.int .i64 ↑k) (by simp [execOp, Act.eval, f11, go_sem]) hl hs hS
   apply sc
   ·intro a w' vs σ hS hl hs hk
    have f56 : a.tmps[56]?.getD undef = .slice (some ⟨ba, oa, none⟩) l.length cl := sf hk 3
    have f57 : a.tmps[57]?.getD undef = .int .i64 ↑k := sf hk 4
    exact rp (pt ba (oa + k * 16)) (by simp [execOp, Act.eval, f56, f57, go_sem, hlz, hlz2]) hl hs hS
   apply sc
   ·intro a w' vs σ hS hl hs hk
    have f58 : a.tmps[58]?.getD undef = .pointer (some ⟨ba, oa + k * 16, none⟩) := sf hk 5
    have hx := (recAt_below hS.base hba (oa + k * 16) 16).trans HRE.out
    exact rp (.agg (av16 a1)) (by simp [execOp, Act.eval, f58, go_sem, hx]) hl hs hS
   apply sc
   ·intro a w' vs σ hS hl hs hk
    have e53 : a.tmps.getD 53 undef = .pointer (some ⟨p, 0, none⟩) := sv hk 0
    have e54 : a.tmps.getD 54 undef = pt x 0 := sv hk 1
    have e55 : a.tmps.getD 55 undef = .agg #[.int .i64 ↑i, .int .i64 ↑j, .bool pd] := sv hk 2
    have e59 : a.tmps.getD 59 undef = .agg (av16 a1) := sv hk 6
    have h1 : σ[1]? = some (.grid p 58 ↑s L0) := hs 1 (by decide)
    have h2 : σ[2]? = some (.grid x 33 ↑s L0) := hs 2 (by decide)
    have hcon := two_call hS (k := 1) (k2 := 2) (sg h1) (sg h2) (by decide) (fun rest hr => HD.out w' rest hr)
    exact ro_call (f := 31) (wanted_none rfl) rfl (by simp only [List.map_toArray, List.map_cons, List.map_nil, Act.eval, e53, e54, e55, e59] <;> rfl) (fun _ _ => by kernel_rfl) (hcon.mono fun e w2 ⟨h1, h2⟩ => ⟨_, h1, sp_set2 1 2 (.grid p 58 ↑s L1) (.grid x 33 ↑s L1) (by decide) (by kernel_rfl) (by simp) (by simp) (by decide) (by decide) hl hs (by rfl) (by rfl) h2 rfl, trivial⟩)
   apply sc
   ·intro a w' vs σ hS hl hs hk
    have f60 : a.tmps[60]?.getD undef = .tuple #[.agg #[.int .i64 ↑i2, .int .i64 ↑j2, .bool pd2], .bool true] := sf hk 7
    exact rp (.tuple #[.agg #[.int .i64 ↑i2, .int .i64 ↑j2, .bool pd2], .bool true]) (by simp [execOp, Act.eval, f60, go_sem]) hl hs hS
   apply sc
   ·intro a w' vs σ hS hl hs hk
    have f52 : a.tmps[52]?.getD undef = .tuple #[.agg #[.int .i64 ↑i2, .int .i64 ↑j2, .bool pd2], .bool true] := sf hk 8
    exact rp (.agg #[.int .i64 ↑i2, .int .i64 ↑j2, .bool pd2]) (by simp [execOp, Act.eval, f52, go_sem]) hl hs hS
   apply sc
   ·intro a w' vs σ hS hl hs hk
    have f52 : a.tmps[52]?.getD undef = .tuple #[.agg #[.int .i64 ↑i2, .int .i64 ↑j2, .bool pd2], .bool true] := sf hk 8
    exact rp (.bool true) (by simp [execOp, Act.eval, f52, go_sem]) hl hs hS
   apply sc
   ·intro a w' vs σ hS hl hs hk
    have h1 : σ[0]? = some .none := hs 0 (by decide)
    exact rs_run (v' := .pointer (some ⟨w'.heap.size, 0, none⟩)) (w' := w'.alloc (.cells #[.int .i64 0, .int .i64 0, .bool false] 48)) (wanted_none rfl) (by first | (simp [execOp, go_sem]; done) | (simp [execOp, go_sem]; rfl) | rfl) (sp_set 0 (.box w'.heap.size 48 #[.int .i64 0, .int .i64 0, .bool false]) (by kernel_rfl) (by simp) (by decide) hl hs (by rfl) (hS.alloc1.place (sg h1)) ⟨_, rfl⟩)
   apply sc
   ·intro a w' vs σ hS hl hs hk
    have e12 : a.tmps.getD 12 undef = vs 11 := sk_val hk 11 (by kernel_rfl) rfl rfl
    have p12 : (fun u : Value => ∃ g, u = .pointer (some ⟨g, 0, none⟩)) (vs 11) := (hk.1 11 (by kernel_rfl)).1
    have f12 := gd e12
    have f61 : a.tmps[61]?.getD undef = .agg #[.int .i64 ↑i2, .int .i64 ↑j2, .bool pd2] := sf hk 9
    obtain ⟨g9, q9⟩ := p12
    have h1 : σ[0]? = some (.box (blkOf (vs 11)) 48 #[.int .i64 0, .int .i64 0, .bool false]) := hs 0 (by decide)
    rw [q9, show blkOf (.pointer (some ⟨g9, 0, none⟩)) = g9 from rfl] at h1
    obtain ⟨hx, hf, hz⟩ := (hS.box (sg h1)).facts
    exact rstep_store (w2 := ((w'.setCell ⟨g9, 0, none⟩ (.int .i64 ↑i2)).setCell ⟨g9, 1, none⟩ (.int .i64 ↑j2)).setCell ⟨g9, 2, none⟩ (.bool pd2)) (wanted_none rfl) rfl (by simp [execOp, Act.eval, e12, f12, f61, q9, hx, hf, hz, go_sem]) (sp_set 0 (.box g9 48 #[.int .i64 ↑i2, .int .i64 ↑j2, .bool pd2]) (by kernel_rfl) (by simp) (by decide) hl hs (by show Ob.box (blkOf (vs 11)) 48 #[.int .i64 ↑i2, .int .i64 ↑j2, .bool pd2] = _; rw [q9]; rfl) (hS.setCur 0 (sg h1)) trivial) trivial
   apply sc
   ·intro a w' vs σ hS hl hs hk
    have f62 : a.tmps[62]?.getD undef = .bool true := sf hk 10
    exact rp (.bool true) (by simp [execOp, Act.eval, f62, go_sem]) hl hs hS
   exact SSteps.nil
  ·intro vs w' hS hv
   have q0 : vs 0 = _ := hv 0 (by decide)
   have q1 : vs 1 = _ := hv 1 (by decide)
   have q2 : vs 2 = _ := hv 2 (by decide)
   have q3 : vs 3 = _ := hv 3 (by decide)
   have q4 : vs 4 = _ := hv 4 (by decide)
   have q5 : vs 5 = _ := hv 5 (by decide)
   have q6 : vs 6 = _ := hv 6 (by decide)
   have q7 : vs 7 = _ := hv 7 (by decide)
   have q8 : vs 8 = _ := hv 8 (by decide)
   have q9 : vs 9 = _ := hv 9 (by decide)
   have q10 : vs 10 = _ := hv 10 (by decide)
   have q13 : vs 13 = _ := hv 13 (by decide)
   obtain ⟨b12, q11⟩ := (show ∃ g, vs 11 = .pointer (some ⟨g, 0, none⟩) from hv 11 (by decide))
   rw [q11, show blkOf (.pointer (some ⟨b12, 0, none⟩)) = b12 from rfl] at hS
   have S2 := Lib.hid hS
   simp only [putL, Act.put, Nat.zero_add, Nat.reduceAdd, List.setIfInBounds_toArray, List.set_cons_succ, List.set_cons_zero, q0, q1, q2, q3, q4, q5, q6, q7, q8, q9, q10, q13]
   clear hS hv q0 q1 q2 q3 q4 q5 q6 q7 q8 q9 q10 q13
   simp only [q11]
   have S4 := S2
   clear S2 S q11 HD
   obtain ⟨vx, hX⟩ := S4.out.openGrid (k := 2) rfl
   obtain ⟨Ax, cx, rfl, -, -⟩ := hX.linesRd (k := 0) rfl
   have S5 := Lib.hid hX
   clear hX S4
   go_upto_region 12 with (fail)
   refine wp_region_stage (w0 := w) (os := []) (by kernel_rfl) (by kernel_rfl) (by kernel_rfl) [(0, 4, [4], fun vs => .lines (vs 4) L1)] [[], [], [], [], [0, 3], [], [], [], [4], [0, 1], [], []] [.none, .lines (.slice Ax L1.length cx) L1, .box b12 48 #[.int .i64 ↑i2, .int .i64 ↑j2, .bool pd2], .grid p 58 ↑s L1, .box x 33 #[.int .i64 ↑s, .slice Ax L1.length cx], .box b10 48 #[.int .i64 ↑i, .int .i64 ↑j, .bool pd]] (fun opn u => match opn with | 0 => u = .bool true | 1 => u = .bool false | 2 => u = .bool false | 3 => u = pt p 0 | 4 => ∃ A c, u = .slice A L1.length c | 5 => u = pt x 0 | 6 => u = pt x 0 | 7 => u = pt x 1 | 8 => u = .slice Ax L1.length cx | 9 => u = .bool true | 10 => u = .bool false | 11 => u = .bool false | _ => True) (fun vs => [.lines (vs 4) L1, .lines (.slice Ax L1.length cx) L1, .box b12 48 #[.int .i64 ↑i2, .int .i64 ↑j2, .bool pd2], .grid p 58 ↑s L1, .box x 33 #[.int .i64 ↑s, .slice Ax L1.length cx], .box b10 48 #[.int .i64 ↑i, .int .i64 ↑j, .bool pd]]) (by kernel_rfl) (fun vs => by rfl) S5.out.pad ?_ ?_
   ·apply sc
    ·intro a w' vs σ hS hl hs hk
     have f13 : a.tmps[13]?.getD undef = .bool true := sof hk
     exact rp (.bool true) (by simp [execOp, Act.eval, f13, go_sem]) hl hs hS
    apply sc
    ·intro a w' vs σ hS hl hs hk
     have f63 : a.tmps[63]?.getD undef = .bool true := sf hk 0
     exact rp (.bool false) (by simp [execOp, Act.eval, f63, go_sem]) hl hs hS
    apply sc
    ·intro a w' vs σ hS hl hs hk
     have f64 : a.tmps[64]?.getD undef = .bool false := sf hk 1
     exact rp (.bool false) (by simp [execOp, Act.eval, f64, go_sem]) hl hs hS
    apply sc
    ·intro a w' vs σ hS hl hs hk
     have f7 : a.tmps[7]?.getD undef = .pointer (some ⟨p, 0, none⟩) := sof hk
     exact rq (pt p 0) (wanted_yes rfl rfl rfl (sv hk 2)) (by simp [execOp, Act.eval, f7, go_sem]) hl hs hS
    apply sc
    ·intro a w' vs σ hS hl hs hk
     have e66 : a.tmps.getD 66 undef = .pointer (some ⟨p, 0, none⟩) := sv hk 3
     have h1 : σ[0]? = some .none := hs 0 (by decide)
     exact ro_call (f := 20) (wanted_yes rfl rfl rfl (sv hk 2)) rfl (by simp only [List.map_toArray, List.map_cons, List.map_nil, Act.eval, e66] <;> rfl) (fun _ _ => by kernel_rfl) ((Lines_any hS (k := 3) (sg (hs 3 (by decide))) hc0 (HK1.out.1.mill hcm0) (by omega)).mono fun e w2 ⟨v9, h3, h2⟩ => ⟨v9, h3, sp_set 0 (.lines v9 L1) (by kernel_rfl) (by simp) (by decide) hl hs (by rfl) (h2.place (sg h1)) (by obtain ⟨A8, c8, e8, -, -⟩ := h2.linesRd (k := 0) rfl; exact ⟨A8, c8, e8⟩), trivial⟩)
    apply sc
    ·intro a w' vs σ hS hl hs hk
     have f9 : a.tmps[9]?.getD undef = .pointer (some ⟨x, 0, none⟩) := sof hk
     exact rq (pt x 0) (wanted_yes rfl rfl rfl (sv hk 2)) (by simp [execOp, Act.eval, f9, go_sem]) hl hs hS
    apply sc
    ·intro a w' vs σ hS hl hs hk
     have f68 : a.tmps[68]?.getD undef = .pointer (some ⟨x, 0, none⟩) := sf hk 5
     exact rq (pt x 0) (wanted_yes rfl rfl rfl (sv hk 2)) (by simp [execOp, Act.eval, f68, go_sem]) hl hs hS
    apply sc
    ·intro a w' vs σ hS hl hs hk
     have f69 : a.tmps[69]?.getD undef = .pointer (some ⟨x, 0, none⟩) := sf hk 6
     exact rq (pt x 1) (wanted_yes rfl rfl rfl (sv hk 2)) (by simp [execOp, Act.eval, f69, go_sem]) hl hs hS
    apply sc
    ·intro a w' vs σ hS hl hs hk
     have f70 : a.tmps[70]?.getD undef = .pointer (some ⟨x, 1, none⟩) := sf hk 7
     have hx := (hS.box (sg (hs 4 (by decide)))).cell
     exact rq (.slice Ax L1.length cx) (wanted_yes rfl rfl rfl (sv hk 2)) (by simp [execOp, Act.eval, f70, go_sem, hx]) hl hs hS
    apply sc
    ·intro a w' vs σ hS hl hs hk
     have e67 : a.tmps.getD 67 undef = vs 4 := sk_val hk 4 (by kernel_rfl) rfl rfl
     have p67 : (fun u : Value => ∃ A c, u = .slice A L1.length c) (vs 4) := (hk.1 4 (by kernel_rfl)).1
     have e71 : a.tmps.getD 71 undef = .slice Ax L1.length cx := sv hk 8
     obtain ⟨A9, c9, q9⟩ := p67
     rw [q9] at e67
     have h0 : σ[0]? = some (.lines (vs 4) L1) := hs 0 (by decide)
     rw [q9] at h0
     have hcon := r14SameLines_any A9 Ax c9 cx L1 L1 w' (hS.linesRd' (sg h0)).2.2 (hS.linesRd' (sg (hs 1 (by decide)))).2.2 (by omega) (by omega) (HK1.out.1.mill hcm0) (HK1.out.1.mill hcm0)
     rw [show decide (L1 = L1) = true by simp] at hcon
     exact ro_call (f := 19) (wanted_yes rfl rfl rfl (sv hk 2)) rfl (by simp only [List.map_toArray, List.map_cons, List.map_nil, Act.eval, e67, e71] <;> rfl) (fun _ _ => by kernel_rfl) (hcon.mono fun e w2 ⟨h1, h2⟩ => ⟨_, h1, sp_same (by kernel_rfl) hl hs (hS.bel h2) rfl, trivial⟩)
    apply sc
    ·intro a w' vs σ hS hl hs hk
     have f72 : a.tmps[72]?.getD undef = .bool true := sf hk 9
     exact rq (.bool false) (wanted_yes rfl rfl rfl (sv hk 2)) (by simp [execOp, Act.eval, f72, go_sem]) hl hs hS
    apply sc
    ·intro a w' vs σ hS hl hs hk
     have f65 : a.tmps[65]?.getD undef = .bool false := sf hk 2
     have f73 : a.tmps[73]?.getD undef = .bool false := sf hk 10
     exact rp (.bool false) (by simp [execOp, Act.eval, f65, f73, go_sem]) hl hs hS
    exact SSteps.nil
   ·intro vs w' hS hv
    have q0 : vs 0 = _ := hv 0 (by decide)
    have q1 : vs 1 = _ := hv 1 (by decide)
    have q2 : vs 2 = _ := hv 2 (by decide)
    have q3 : vs 3 = _ := hv 3 (by decide)
    have q5 : vs 5 = _ := hv 5 (by decide)
    have q6 : vs 6 = _ := hv 6 (by decide)
    have q7 : vs 7 = _ := hv 7 (by decide)
    have q8 : vs 8 = _ := hv 8 (by decide)
    have q9 : vs 9 = _ := hv 9 (by decide)
    have q10 : vs 10 = _ := hv 10 (by decide)
    have q11 : vs 11 = _ := hv 11 (by decide)
    have S2 := Lib.hid hS
    simp only [putL, Act.put, Nat.zero_add, Nat.reduceAdd, List.setIfInBounds_toArray, List.set_cons_succ, List.set_cons_zero, q0, q1, q2, q3, q5, q6, q7, q8, q9, q10, q11]
    clear hS hv q0 q1 q2 q3 q5 q6 q7 q8 q9 q10 q11
    have S6 := S2
    clear S2 S5
    obtain ⟨hx12, hf12, hz12⟩ := (S6.out.box (k := 2) rfl).facts
    obtain ⟨hx10, hf10, hz10⟩ := (S6.out.box (k := 5) rfl).facts
    have SF := Lib.hid (S6.out.setCur 5 (r := ↑i2) (c := ↑j2) (b := pd2) rfl)
    go_wp2_with fail
    have SG := Lib.hid (show Objs w _ [.lines (.slice Ax L1.length cx) L1, .grid p 58 ↑s L1, .box x 33 #[.int .i64 ↑s, .slice Ax L1.length cx], .box b10 48 #[.int .i64 ↑i2, .int .i64 ↑j2, .bool pd2]] from (Objs.pick (σ := [_, _, _, _, _, _]) (os := []) SF.out [some 1, some 3, some 4, some 5] (by decide) rfl))
    go_roundw
    case rel => exact ⟨k + 1, i2, j2, pd2, L1, by omega, by go_num, HI1, HK1, (show Objs w _ (.lines (.slice Ax L1.length cx) L1 :: _) from SG.out).closeGrid (k := 1) rfl⟩
    case measure => simp [intOf]; omega

end Go.Proofs.YtppijfjigcoifaaDoor
