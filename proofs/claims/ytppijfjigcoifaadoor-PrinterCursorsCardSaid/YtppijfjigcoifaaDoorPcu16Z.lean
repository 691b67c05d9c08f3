/-
  PrinterCursors: the law returns true.
-/
import Derived.Test.YtppijfjigcoifaaDoorPl16Z
set_option linter.unusedSimpArgs false
set_option linter.unusedVariables false
namespace Go.Proofs.YtppijfjigcoifaaDoor
open Go.RowKit

theorem Kept14.put {s rr i j : Nat} {L : List Ln} {x : Cell} (h : Kept14 s rr L) (hx : x.ok = true) (hw : x.width = 1 ∨ x.width = 2) (hf : (j : Int) + x.width ≤ s) : Kept14 s rr (rowMod i (putC j x) L) :=
 ⟨h.1.rowMod i (fun cs hcs => by rw [putC_length]; exact hcs), (rowMod_length _ _ _).trans h.2.1, h.2.2.rowMod i (fun l hl => (h.2.2 l hl).put hx hw (by rw [h.1 l hl]; exact hf))⟩
set_option maxRecDepth 100000 in
set_option maxHeartbeats 16000000 in
theorem l16PrinterCursors_any (rows cols fill ro co : Int) (pe : Bool) (ac : Act16) (w : World) (hT : Tabs w) :
  Calls Tryd.prog 7 #[.int .i64 rows, .int .i64 cols, .int .i32 fill, .agg #[.int .i64 ro, .int .i64 co, .bool pe], .agg (av16 ac)] w fun e w' => e = .returned (.bool true) ∧ Below w.heap.size w w' := by
 have HT := Lib.hid hT
 clear hT
 have hcases : (rows < 1 ∨ (1 ≤ rows ∧ 4 < rows) ∨ ((1 ≤ rows ∧ rows ≤ 4) ∧ cols < 1) ∨ ((1 ≤ rows ∧ rows ≤ 4) ∧ 1 ≤ cols ∧ 6 < cols)) ∨ ((1 ≤ rows ∧ rows ≤ 4) ∧ (1 ≤ cols ∧ cols ≤ 6)) := by omega
 rcases hcases with hno | ⟨⟨h1, h2⟩, ⟨h3, h4⟩⟩
 ·rcases hno with h | ⟨h, h2⟩ | ⟨⟨h, h2⟩, h3⟩ | ⟨⟨h, h2⟩, h3, h4⟩
  all_goals
   go_enter Tryd.func7, Tryd.ntmps7
   go_upto_region 1 with (fail)
   refine at_objsC ((objs_start w).alloc2 (c1 := #[.int .i64 ro, .int .i64 co, .bool pe]) (t1 := 48) (c2 := av16 ac) (t2 := 56)) (fun W hW => ?_)
   have S1 := Lib.hid hW
   clear hW
   go_wp2_with fail
   refine (l16known_any _ (S1.out.tabs HT.out)).mono ?_
   rintro e w1 ⟨rfl, hb⟩
   have HB := Lib.hid (S1.out.bel hb).base
   clear hb S1
   go_wp2_with fail
   go_ret
   exact ⟨rfl, HB.out⟩
 obtain ⟨rr, rfl⟩ : ∃ rr : Nat, rows = rr := ⟨rows.toNat, by omega⟩
 obtain ⟨s, rfl⟩ : ∃ s : Nat, cols = s := ⟨cols.toNat, by omega⟩
 have g1 : 1 ≤ rr := by omega
 have g2 : rr ≤ 4 := by omega
 have g3 : 1 ≤ s := by omega
 have g4 : s ≤ 6 := by omega
 have hc0 : 0 < s := by omega
 have hcm0 : s ≤ 1000 := by omega
 obtain ⟨nw, hnw⟩ : ∃ nw, wOf fill = nw := ⟨_, rfl⟩
 have HW := Lib.hid hnw
 clear hnw
 go_enter Tryd.func7, Tryd.ntmps7
 go_upto_region 1 with (fail)
 refine at_objsC ((objs_start w).alloc2 (c1 := #[.int .i64 ro, .int .i64 co, .bool pe]) (t1 := 48) (c2 := av16 ac) (t2 := 56)) (fun W hW => ?_)
 generalize w.heap.size + 1 = b9 at hW ⊢
 generalize w.heap.size = b8 at hW ⊢
 have S0 := Lib.hid hW
 clear hW
 go_wp2_with fail
 refine (gridNew_yes rr s g1 (by omega) g3 (by omega) w _ _ S0.out).mono ?_
 rintro e w1 ⟨p, rfl, hS⟩
 have S1 := Lib.hid hS
 clear hS S0
 go_wp2_with fail
 refine (r14New_any rr s (by omega) (by omega) w _ _ S1.out).mono ?_
 rintro e w2 ⟨x, rfl, hS⟩
 obtain ⟨L0, hL0⟩ : ∃ L0, L0 = List.replicate rr (List.replicate s (blank pen0), false) := ⟨_, rfl⟩
 have HK0 := Lib.hid (show Kept14 s rr L0 by rw [hL0]; exact kept14_new s rr)
 rw [← hL0] at hS
 have S2 := Lib.hid hS.swap
 clear hS S1 hL0
 go_wp2_with fail
 refine (width_is HW.out _ (S2.out.tabs HT.out)).mono ?_
 rintro e w3 ⟨rfl, hb⟩
 have S3 := Lib.hid (show Objs w w3 [.grid p 58 ↑s L0, .grid x 33 ↑s L0, .box b9 56 (av16 ac), .box b8 48 #[.int .i64 ro, .int .i64 co, .bool pe]] from S2.out.bel hb)
 clear hb S2
 go_wp2_with fail
 go_loopw [15, 16, 17] (fun vi _ _ wr => ∃ (k : Nat) (L0 : List Ln), k ≤ rr ∧ vi = .int .i64 k ∧ Hid (Kept14 s rr L0) ∧ Objs w wr [.grid p 58 ↑s L0, .grid x 33 ↑s L0, .box b9 56 (av16 ac), .box b8 48 #[.int .i64 ro, .int .i64 co, .bool pe]]) (fun vi _ _ _ => rr - (intOf vi).toNat)
 case atStart => exact ⟨0, L0, Nat.zero_le _, rfl, HK0, S3.out⟩
 case round =>
  clear S3 HK0 L0
  obtain ⟨k, L0, hk, rfl, HK0, hS⟩ := hrel
  have S := Lib.hid hS
  clear hS
  by_cases hlt : k < rr
  case neg =>
   obtain ⟨hx8, hf8, hz8⟩ := (S.out.box (k := 3) rfl).facts
   have hd9 : decide ((k : Int) < (rr : Int)) = false := decide_eq_false (by omega)
   go_wp2_with fail
   clear hx8 hf8 hz8 hd9
   have hL0p : 0 < L0.length := by rw [HK0.out.2.1]; omega
   have hL0m : L0.length ≤ 1000 := by rw [HK0.out.2.1]; omega
   cases hin : inG ro co pe L0.length s with
   | false =>
    have HIN0 := Lib.hid hin
    clear hin
    refine (show Calls Tryd.prog 35 #[.pointer (some ⟨x, 0, none⟩), .agg #[.int .i64 ro, .int .i64 co, .bool pe]] _ _ from (by have hcon := r16In_any ro co pe S.out (k := 1) rfl hcm0; rw [HIN0.out] at hcon; exact hcon)).mono ?_
    rintro e w4 ⟨rfl, hS⟩
    obtain ⟨L1, hL1⟩ : ∃ L1, L1 = L0 := ⟨_, rfl⟩
    rw [← hL1] at hS HIN0 HK0 hL0p hL0m
    have HIN := HIN0
    have HK1 := HK0
    have hL1p := hL0p
    have hL1m := hL0m
    obtain ⟨vx, hX⟩ := hS.openGrid (k := 1) rfl
    obtain ⟨Ax, cx, rfl, -, -⟩ := hX.linesRd (k := 0) rfl
    have S6 := Lib.hid hX
    clear hX hS S HIN0 HK0 hL1 hL0p hL0m
    go_upto_region 19 with (fail)
    refine wp_region_stage (w0 := w) (os := []) (by kernel_rfl) (by kernel_rfl) (by kernel_rfl) [(0, 30, [30], fun vs => .lines (vs 30) L1)] [[], [5], [], [4], [], [4], [], [4], [], [4], [], [2], [], [], [5], [], [4], [], [4], [2], [], [], [], [5], [], [4], [2], [], [], [], [0, 2], [], [], [], [3], [0, 1], [], [], [], [], []] [.none, .lines (.slice Ax L1.length cx) L1, .grid p 58 ↑s L1, .box x 33 #[.int .i64 ↑s, .slice Ax L1.length cx], .box b9 56 (av16 ac), .box b8 48 #[.int .i64 ro, .int .i64 co, .bool pe]] (fun opn u => match opn with | 0 => u = pt p 0 | 1 => u = .agg #[.int .i64 ro, .int .i64 co, .bool pe] | 2 => u = pt b9 2 | 3 => u = .int .i32 ac.r | 4 => u = pt b9 3 | 5 => u = .agg (pv ac.q) | 6 => u = pt b9 14 | 7 => u = .bool ac.auto | 8 => u = pt b9 15 | 9 => u = .bool ac.ins | 10 => u = .agg #[.int .i64 0, .int .i64 0, .bool false] | 11 => u = .bool true | 12 => u = .bool true | 13 => u = pt p 0 | 14 => u = .agg #[.int .i64 ro, .int .i64 co, .bool pe] | 15 => u = pt b9 2 | 16 => u = .int .i32 ac.r | 17 => u = pt b9 14 | 18 => u = .bool ac.auto | 19 => u = .bool true | 20 => u = .bool true | 21 => u = .bool true | 22 => u = pt p 0 | 23 => u = .agg #[.int .i64 ro, .int .i64 co, .bool pe] | 24 => u = pt b9 2 | 25 => u = .int .i32 ac.r | 26 => u = .bool true | 27 => u = .bool true | 28 => u = .bool true | 29 => u = pt p 0 | 30 => ∃ A c, u = .slice A L1.length c | 31 => u = pt x 0 | 32 => u = pt x 0 | 33 => u = pt x 1 | 34 => u = .slice Ax L1.length cx | 35 => u = .bool true | 36 => u = .bool true | 37 => u = .bool true | 38 => u = .bool true | 39 => u = .bool true | 40 => u = .bool true | _ => True) (fun vs => [.lines (vs 30) L1, .lines (.slice Ax L1.length cx) L1, .grid p 58 ↑s L1, .box x 33 #[.int .i64 ↑s, .slice Ax L1.length cx], .box b9 56 (av16 ac), .box b8 48 #[.int .i64 ro, .int .i64 co, .bool pe]]) (by kernel_rfl) (fun vs => by rfl) S6.out.pad ?_ ?_
    ·apply sc
     ·intro a w' vs σ hS hl hs hk
      have f11 : a.tmps[11]?.getD undef = .pointer (some ⟨p, 0, none⟩) := sof hk
      exact rp (pt p 0) (by simp [execOp, Act.eval, f11, go_sem]) hl hs hS
     apply sc
     ·intro a w' vs σ hS hl hs hk
      have f8 : a.tmps[8]?.getD undef = .pointer (some ⟨b8, 0, none⟩) := sof hk
      have hx := (hS.box (sg (hs 5 (by decide)))).cell
      exact rp (.agg #[.int .i64 ro, .int .i64 co, .bool pe]) (by simp [execOp, Act.eval, f8, go_sem, hx]) hl hs hS
     apply sc
     ·intro a w' vs σ hS hl hs hk
      have f9 : a.tmps[9]?.getD undef = .pointer (some ⟨b9, 0, none⟩) := sof hk
      exact rp (pt b9 2) (by simp [execOp, Act.eval, f9, go_sem]) hl hs hS
     apply sc
     ·intro a w' vs σ hS hl hs hk
      have f89 : a.tmps[89]?.getD undef = .pointer (some ⟨b9, 2, none⟩) := sf hk 2
      have hx := (hS.box (sg (hs 4 (by decide)))).cell
      exact rp (.int .i32 ac.r) (by simp [execOp, Act.eval, f89, go_sem, hx]) hl hs hS
     apply sc
     ·intro a w' vs σ hS hl hs hk
      have f9 : a.tmps[9]?.getD undef = .pointer (some ⟨b9, 0, none⟩) := sof hk
      exact rp (pt b9 3) (by simp [execOp, Act.eval, f9, go_sem]) hl hs hS
     apply sc
     ·intro a w' vs σ hS hl hs hk
      have f91 : a.tmps[91]?.getD undef = .pointer (some ⟨b9, 3, none⟩) := sf hk 4
      have hx := (hS.box (sg (hs 4 (by decide)))).act16.2.2.2.2
      exact rp (.agg (pv ac.q)) (by simp [execOp, Act.eval, f91, go_sem, hx]) hl hs hS
     apply sc
     ·intro a w' vs σ hS hl hs hk
      have f9 : a.tmps[9]?.getD undef = .pointer (some ⟨b9, 0, none⟩) := sof hk
      exact rp (pt b9 14) (by simp [execOp, Act.eval, f9, go_sem]) hl hs hS
     apply sc
     ·intro a w' vs σ hS hl hs hk
      have f93 : a.tmps[93]?.getD undef = .pointer (some ⟨b9, 14, none⟩) := sf hk 6
      have hx := (hS.box (sg (hs 4 (by decide)))).cell
      exact rp (.bool ac.auto) (by simp [execOp, Act.eval, f93, go_sem, hx]) hl hs hS
     apply sc
     ·intro a w' vs σ hS hl hs hk
      have f9 : a.tmps[9]?.getD undef = .pointer (some ⟨b9, 0, none⟩) := sof hk
      exact rp (pt b9 15) (by simp [execOp, Act.eval, f9, go_sem]) hl hs hS
     apply sc
     ·intro a w' vs σ hS hl hs hk
      have f95 : a.tmps[95]?.getD undef = .pointer (some ⟨b9, 15, none⟩) := sf hk 8
      have hx := (hS.box (sg (hs 4 (by decide)))).cell
      exact rp (.bool ac.ins) (by simp [execOp, Act.eval, f95, go_sem, hx]) hl hs hS
     apply sc
     ·intro a w' vs σ hS hl hs hk
      exact rp (.agg #[.int .i64 0, .int .i64 0, .bool false]) (by simp [execOp, Act.eval, go_sem]) hl hs hS
     apply sc
     ·intro a w' vs σ hS hl hs hk
      have e87 : a.tmps.getD 87 undef = .pointer (some ⟨p, 0, none⟩) := sv hk 0
      have e88 : a.tmps.getD 88 undef = .agg #[.int .i64 ro, .int .i64 co, .bool pe] := sv hk 1
      have e90 : a.tmps.getD 90 undef = .int .i32 ac.r := sv hk 3
      have e92 : a.tmps.getD 92 undef = .agg (pv ac.q) := sv hk 5
      have e94 : a.tmps.getD 94 undef = .bool ac.auto := sv hk 7
      have e96 : a.tmps.getD 96 undef = .bool ac.ins := sv hk 9
      have e97 : a.tmps.getD 97 undef = .agg #[.int .i64 0, .int .i64 0, .bool false] := sv hk 10
      exact ro_call (f := 27) (wanted_none rfl) rfl (by simp only [List.map_toArray, List.map_cons, List.map_nil, Act.eval, e87, e88, e90, e92, e94, e96, e97] <;> rfl) (fun _ _ => by kernel_rfl) ((prints_no hS (k := 2) (sg (hs 2 (by decide))) hc0 hcm0 hL1p HIN.out).mono fun e w2 ⟨h1, h2⟩ => ⟨_, h1, sp_same (by kernel_rfl) hl hs h2 rfl, trivial⟩)
     apply sc
     ·intro a w' vs σ hS hl hs hk
      have f98 : a.tmps[98]?.getD undef = .bool true := sf hk 11
      exact rp (.bool true) (by simp [execOp, Act.eval, f98, go_sem]) hl hs hS
     apply sc
     ·intro a w' vs σ hS hl hs hk
      have f11 : a.tmps[11]?.getD undef = .pointer (some ⟨p, 0, none⟩) := sof hk
      exact rq (pt p 0) (wanted_yes rfl rfl rfl (sv hk 12)) (by simp [execOp, Act.eval, f11, go_sem]) hl hs hS
     apply sc
     ·intro a w' vs σ hS hl hs hk
      have f8 : a.tmps[8]?.getD undef = .pointer (some ⟨b8, 0, none⟩) := sof hk
      have hx := (hS.box (sg (hs 5 (by decide)))).cell
      exact rq (.agg #[.int .i64 ro, .int .i64 co, .bool pe]) (wanted_yes rfl rfl rfl (sv hk 12)) (by simp [execOp, Act.eval, f8, go_sem, hx]) hl hs hS
     apply sc
     ·intro a w' vs σ hS hl hs hk
      have f9 : a.tmps[9]?.getD undef = .pointer (some ⟨b9, 0, none⟩) := sof hk
      exact rq (pt b9 2) (wanted_yes rfl rfl rfl (sv hk 12)) (by simp [execOp, Act.eval, f9, go_sem]) hl hs hS
     apply sc
     ·intro a w' vs σ hS hl hs hk
      have f102 : a.tmps[102]?.getD undef = .pointer (some ⟨b9, 2, none⟩) := sf hk 15
      have hx := (hS.box (sg (hs 4 (by decide)))).cell
      exact rq (.int .i32 ac.r) (wanted_yes rfl rfl rfl (sv hk 12)) (by simp [execOp, Act.eval, f102, go_sem, hx]) hl hs hS
     apply sc
     ·intro a w' vs σ hS hl hs hk
      have f9 : a.tmps[9]?.getD undef = .pointer (some ⟨b9, 0, none⟩) := sof hk
      exact rq (pt b9 14) (wanted_yes rfl rfl rfl (sv hk 12)) (by simp [execOp, Act.eval, f9, go_sem]) hl hs hS
     apply sc
     ·intro a w' vs σ hS hl hs hk
      have f104 : a.tmps[104]?.getD undef = .pointer (some ⟨b9, 14, none⟩) := sf hk 17
      have hx := (hS.box (sg (hs 4 (by decide)))).cell
      exact rq (.bool ac.auto) (wanted_yes rfl rfl rfl (sv hk 12)) (by simp [execOp, Act.eval, f104, go_sem, hx]) hl hs hS
     apply sc
     ·intro a w' vs σ hS hl hs hk
      have e100 : a.tmps.getD 100 undef = .pointer (some ⟨p, 0, none⟩) := sv hk 13
      have e101 : a.tmps.getD 101 undef = .agg #[.int .i64 ro, .int .i64 co, .bool pe] := sv hk 14
      have e103 : a.tmps.getD 103 undef = .int .i32 ac.r := sv hk 16
      have e105 : a.tmps.getD 105 undef = .bool ac.auto := sv hk 18
      exact ro_call (f := 28) (wanted_yes rfl rfl rfl (sv hk 12)) rfl (by simp only [List.map_toArray, List.map_cons, List.map_nil, Act.eval, e100, e101, e103, e105] <;> rfl) (fun _ _ => by kernel_rfl) ((wraps_no hS (k := 2) (sg (hs 2 (by decide))) hc0 hcm0 hL1p HIN.out).mono fun e w2 ⟨h1, h2⟩ => ⟨_, h1, sp_same (by kernel_rfl) hl hs h2 rfl, trivial⟩)
     apply sc
     ·intro a w' vs σ hS hl hs hk
      have f99 : a.tmps[99]?.getD undef = .bool true := sf hk 12
      have f106 : a.tmps[106]?.getD undef = .bool true := sf hk 19
      exact rp (.bool true) (by simp [execOp, Act.eval, f99, f106, go_sem]) hl hs hS
     apply sc
     ·intro a w' vs σ hS hl hs hk
      have f107 : a.tmps[107]?.getD undef = .bool true := sf hk 20
      exact rp (.bool true) (by simp [execOp, Act.eval, f107, go_sem]) hl hs hS
     apply sc
     ·intro a w' vs σ hS hl hs hk
      have f11 : a.tmps[11]?.getD undef = .pointer (some ⟨p, 0, none⟩) := sof hk
      exact rq (pt p 0) (wanted_yes rfl rfl rfl (sv hk 21)) (by simp [execOp, Act.eval, f11, go_sem]) hl hs hS
     apply sc
     ·intro a w' vs σ hS hl hs hk
      have f8 : a.tmps[8]?.getD undef = .pointer (some ⟨b8, 0, none⟩) := sof hk
      have hx := (hS.box (sg (hs 5 (by decide)))).cell
      exact rq (.agg #[.int .i64 ro, .int .i64 co, .bool pe]) (wanted_yes rfl rfl rfl (sv hk 21)) (by simp [execOp, Act.eval, f8, go_sem, hx]) hl hs hS
     apply sc
     ·intro a w' vs σ hS hl hs hk
      have f9 : a.tmps[9]?.getD undef = .pointer (some ⟨b9, 0, none⟩) := sof hk
      exact rq (pt b9 2) (wanted_yes rfl rfl rfl (sv hk 21)) (by simp [execOp, Act.eval, f9, go_sem]) hl hs hS
     apply sc
     ·intro a w' vs σ hS hl hs hk
      have f111 : a.tmps[111]?.getD undef = .pointer (some ⟨b9, 2, none⟩) := sf hk 24
      have hx := (hS.box (sg (hs 4 (by decide)))).cell
      exact rq (.int .i32 ac.r) (wanted_yes rfl rfl rfl (sv hk 21)) (by simp [execOp, Act.eval, f111, go_sem, hx]) hl hs hS
     apply sc
     ·intro a w' vs σ hS hl hs hk
      have e109 : a.tmps.getD 109 undef = .pointer (some ⟨p, 0, none⟩) := sv hk 22
      have e110 : a.tmps.getD 110 undef = .agg #[.int .i64 ro, .int .i64 co, .bool pe] := sv hk 23
      have e112 : a.tmps.getD 112 undef = .int .i32 ac.r := sv hk 25
      exact ro_call (f := 29) (wanted_yes rfl rfl rfl (sv hk 21)) rfl (by simp only [List.map_toArray, List.map_cons, List.map_nil, Act.eval, e109, e110, e112] <;> rfl) (fun _ _ => by kernel_rfl) ((marks_no hS (k := 2) (sg (hs 2 (by decide))) hc0 hcm0 hL1p HIN.out).mono fun e w2 ⟨h1, h2⟩ => ⟨_, h1, sp_same (by kernel_rfl) hl hs h2 rfl, trivial⟩)
     apply sc
     ·intro a w' vs σ hS hl hs hk
      have f108 : a.tmps[108]?.getD undef = .bool true := sf hk 21
      have f113 : a.tmps[113]?.getD undef = .bool true := sf hk 26
      exact rp (.bool true) (by simp [execOp, Act.eval, f108, f113, go_sem]) hl hs hS
     apply sc
     ·intro a w' vs σ hS hl hs hk
      have f114 : a.tmps[114]?.getD undef = .bool true := sf hk 27
      exact rp (.bool true) (by simp [execOp, Act.eval, f114, go_sem]) hl hs hS
     apply sc
     ·intro a w' vs σ hS hl hs hk
      have f11 : a.tmps[11]?.getD undef = .pointer (some ⟨p, 0, none⟩) := sof hk
      exact rq (pt p 0) (wanted_yes rfl rfl rfl (sv hk 28)) (by simp [execOp, Act.eval, f11, go_sem]) hl hs hS
     apply sc
     ·intro a w' vs σ hS hl hs hk
      have e116 : a.tmps.getD 116 undef = .pointer (some ⟨p, 0, none⟩) := sv hk 29
      have h1 : σ[0]? = some .none := hs 0 (by decide)
      exact ro_call (f := 20) (wanted_yes rfl rfl rfl (sv hk 28)) rfl (by simp only [List.map_toArray, List.map_cons, List.map_nil, Act.eval, e116] <;> rfl) (fun _ _ => by kernel_rfl) ((Lines_any hS (k := 2) (sg (hs 2 (by decide))) hc0 (HK1.out.1.mill hcm0) (by omega)).mono fun e w2 ⟨v9, h3, h2⟩ => ⟨v9, h3, sp_set 0 (.lines v9 L1) (by kernel_rfl) (by simp) (by decide) hl hs (by rfl) (h2.place (sg h1)) (by obtain ⟨A8, c8, e8, -, -⟩ := h2.linesRd (k := 0) rfl; exact ⟨A8, c8, e8⟩), trivial⟩)
     apply sc
     ·intro a w' vs σ hS hl hs hk
      have f13 : a.tmps[13]?.getD undef = .pointer (some ⟨x, 0, none⟩) := sof hk
      exact rq (pt x 0) (wanted_yes rfl rfl rfl (sv hk 28)) (by simp [execOp, Act.eval, f13, go_sem]) hl hs hS
     apply sc
     ·intro a w' vs σ hS hl hs hk
      have f118 : a.tmps[118]?.getD undef = .pointer (some ⟨x, 0, none⟩) := sf hk 31
      exact rq (pt x 0) (wanted_yes rfl rfl rfl (sv hk 28)) (by simp [execOp, Act.eval, f118, go_sem]) hl hs hS
     apply sc
     ·intro a w' vs σ hS hl hs hk
      have f119 : a.tmps[119]?.getD undef = .pointer (some ⟨x, 0, none⟩) := sf hk 32
      exact rq (pt x 1) (wanted_yes rfl rfl rfl (sv hk 28)) (by simp [execOp, Act.eval, f119, go_sem]) hl hs hS
     apply sc
     ·intro a w' vs σ hS hl hs hk
      have f120 : a.tmps[120]?.getD undef = .pointer (some ⟨x, 1, none⟩) := sf hk 33
      have hx := (hS.box (sg (hs 3 (by decide)))).cell
      exact rq (.slice Ax L1.length cx) (wanted_yes rfl rfl rfl (sv hk 28)) (by simp [execOp, Act.eval, f120, go_sem, hx]) hl hs hS
     apply sc
     ·intro a w' vs σ hS hl hs hk
      have e117 : a.tmps.getD 117 undef = vs 30 := sk_val hk 30 (by kernel_rfl) rfl rfl
      have p117 : (fun u : Value => ∃ A c, u = .slice A L1.length c) (vs 30) := (hk.1 30 (by kernel_rfl)).1
      have e121 : a.tmps.getD 121 undef = .slice Ax L1.length cx := sv hk 34
      obtain ⟨A9, c9, q9⟩ := p117
      rw [q9] at e117
      have h0 : σ[0]? = some (.lines (vs 30) L1) := hs 0 (by decide)
      rw [q9] at h0
      have hcon := r14SameLines_any A9 Ax c9 cx L1 L1 w' (hS.linesRd' (sg h0)).2.2 (hS.linesRd' (sg (hs 1 (by decide)))).2.2 (by omega) (by omega) (HK1.out.1.mill hcm0) (HK1.out.1.mill hcm0)
      rw [show decide (L1 = L1) = true by simp] at hcon
      exact ro_call (f := 19) (wanted_yes rfl rfl rfl (sv hk 28)) rfl (by simp only [List.map_toArray, List.map_cons, List.map_nil, Act.eval, e117, e121] <;> rfl) (fun _ _ => by kernel_rfl) (hcon.mono fun e w2 ⟨h1, h2⟩ => ⟨_, h1, sp_same (by kernel_rfl) hl hs (hS.bel h2) rfl, trivial⟩)
     apply sc
     ·intro a w' vs σ hS hl hs hk
      have f115 : a.tmps[115]?.getD undef = .bool true := sf hk 28
      have f122 : a.tmps[122]?.getD undef = .bool true := sf hk 35
      exact rp (.bool true) (by simp [execOp, Act.eval, f115, f122, go_sem]) hl hs hS
     apply sc
     ·intro a w' vs σ hS hl hs hk
      have f123 : a.tmps[123]?.getD undef = .bool true := sf hk 36
      exact rp (.bool true) (by simp [execOp, Act.eval, f123, go_sem]) hl hs hS
     apply sc
     ·intro a w' vs σ hS hl hs hk
      exact ro_call (f := 30) (wanted_yes rfl rfl rfl (sv hk 37)) rfl (by simp only [List.map_toArray, List.map_cons, List.map_nil, Act.eval] <;> rfl) (fun _ _ => by kernel_rfl) ((l16known_any w' (hS.tabs HT.out)).mono fun e w2 ⟨h1, h2⟩ => ⟨_, h1, sp_same (by kernel_rfl) hl hs (hS.bel h2) rfl, trivial⟩)
     apply sc
     ·intro a w' vs σ hS hl hs hk
      have f124 : a.tmps[124]?.getD undef = .bool true := sf hk 37
      have f125 : a.tmps[125]?.getD undef = .bool true := sf hk 38
      exact rp (.bool true) (by simp [execOp, Act.eval, f124, f125, go_sem]) hl hs hS
     apply sc
     ·intro a w' vs σ hS hl hs hk
      have f126 : a.tmps[126]?.getD undef = .bool true := sf hk 39
      exact rp (.bool true) (by simp [execOp, Act.eval, f126, go_sem]) hl hs hS
     exact SSteps.nil
    ·intro vs w' hS hv
     have q0 : vs 0 = _ := hv 0 (by decide)
     have q1 : vs 1 = _ := hv 1 (by decide)
     have q2 : vs 2 = _ := hv 2 (by decide)
     have q3 : vs 3 = _ := hv 3 (by decide)
     have q4 : vs 4 = _ := hv 4 (by decide)
     have q5 : vs 5 = _ := hv 5 (by decide)
     have q6 : vs 6 = _ := hv 6 (by decide)
     have q7 : vs 7 = _ := hv 7 (by decide)
     have q8 : vs 8 = _ := hv 8 (by decide)
     have q9 : vs 9 = _ := hv 9 (by decide)
     have q10 : vs 10 = _ := hv 10 (by decide)
     have q11 : vs 11 = _ := hv 11 (by decide)
     have q12 : vs 12 = _ := hv 12 (by decide)
     have q13 : vs 13 = _ := hv 13 (by decide)
     have q14 : vs 14 = _ := hv 14 (by decide)
     have q15 : vs 15 = _ := hv 15 (by decide)
     have q16 : vs 16 = _ := hv 16 (by decide)
     have q17 : vs 17 = _ := hv 17 (by decide)
     have q18 : vs 18 = _ := hv 18 (by decide)
     have q19 : vs 19 = _ := hv 19 (by decide)
     have q20 : vs 20 = _ := hv 20 (by decide)
     have q21 : vs 21 = _ := hv 21 (by decide)
     have q22 : vs 22 = _ := hv 22 (by decide)
     have q23 : vs 23 = _ := hv 23 (by decide)
     have q24 : vs 24 = _ := hv 24 (by decide)
     have q25 : vs 25 = _ := hv 25 (by decide)
     have q26 : vs 26 = _ := hv 26 (by decide)
     have q27 : vs 27 = _ := hv 27 (by decide)
     have q28 : vs 28 = _ := hv 28 (by decide)
     have q29 : vs 29 = _ := hv 29 (by decide)
     have q31 : vs 31 = _ := hv 31 (by decide)
     have q32 : vs 32 = _ := hv 32 (by decide)
     have q33 : vs 33 = _ := hv 33 (by decide)
     have q34 : vs 34 = _ := hv 34 (by decide)
     have q35 : vs 35 = _ := hv 35 (by decide)
     have q36 : vs 36 = _ := hv 36 (by decide)
     have q37 : vs 37 = _ := hv 37 (by decide)
     have q38 : vs 38 = _ := hv 38 (by decide)
     have q39 : vs 39 = _ := hv 39 (by decide)
     have q40 : vs 40 = _ := hv 40 (by decide)
     have S2 := Lib.hid hS
     simp only [putL, Act.put, Nat.zero_add, Nat.reduceAdd, List.setIfInBounds_toArray, List.set_cons_succ, List.set_cons_zero, q0, q1, q2, q3, q4, q5, q6, q7, q8, q9, q10, q11, q12, q13, q14, q15, q16, q17, q18, q19, q20, q21, q22, q23, q24, q25, q26, q27, q28, q29, q31, q32, q33, q34, q35, q36, q37, q38, q39, q40]
     clear hS hv q0 q1 q2 q3 q4 q5 q6 q7 q8 q9 q10 q11 q12 q13 q14 q15 q16 q17 q18 q19 q20 q21 q22 q23 q24 q25 q26 q27 q28 q29 q31 q32 q33 q34 q35 q36 q37 q38 q39 q40
     have S9 := S2
     clear S2 S6
     go_wp2_with fail
     go_ret
     exact ⟨rfl, S9.out.base⟩
   | true =>
    have hing := ingrid_iff.1 hin
    obtain ⟨i, rfl⟩ : ∃ i : Nat, ro = i := ⟨ro.toNat, by omega⟩
    obtain ⟨j, rfl⟩ : ∃ j : Nat, co = j := ⟨co.toNat, by omega⟩
    have HIN := Lib.hid hin
    clear hin hing
    refine (show Calls Tryd.prog 35 #[.pointer (some ⟨x, 0, none⟩), .agg #[.int .i64 ↑i, .int .i64 ↑j, .bool pe]] _ _ from (by have hcon := r16In_any i j pe S.out (k := 1) rfl hcm0; rw [HIN.out] at hcon; exact hcon)).mono ?_
    rintro e w4 ⟨rfl, hS⟩
    have S5 := Lib.hid hS
    clear hS S
    obtain ⟨i2, j2, pd2, L1, ⟨q1, q2, q3, q4⟩, hd⟩ := l16does_all (w0 := w) (p := p) (p2 := x) (i := i) (j := j) (pend := pe) ac HT.out hc0 hcm0 hL0p hL0m HK0.out.1 HK0.out.2.2 HIN.out
    have HD := Lib.hid hd
    have HK1 := Lib.hid (show Kept14 s rr L1 from ⟨q3, q2.trans HK0.out.2.1, q4⟩)
    have hL1m : L1.length ≤ 1000 := by rw [HK1.out.2.1]; omega
    clear q1 q2 q3 q4 hd
    obtain ⟨hx8, hf8, hz8⟩ := (S5.out.box (k := 3) rfl).facts
    obtain ⟨hx9, hf9, hz9, hr9, hp9⟩ := (S5.out.box (k := 2) rfl).act16
    go_wp2_with fail
    clear hx8 hf8 hz8 hx9 hf9 hz9 hr9 hp9
    refine (HD.out _ _ S5.out).mono ?_
    rintro e w5 ⟨rfl, hS⟩
    obtain ⟨vx, hX⟩ := hS.openGrid (k := 1) rfl
    obtain ⟨Ax, cx, rfl, -, -⟩ := hX.linesRd (k := 0) rfl
    have S7 := Lib.hid hX
    clear hX hS S5
    go_upto_region 21 with (fail)
    refine at_objsC (S7.out.alloc1 (c1 := #[.int .i64 ↑i2, .int .i64 ↑j2, .bool pd2]) (t1 := 48)) (fun W8 hW8 => ?_)
    have S8 := Lib.hid hW8.tail
    clear hW8 S7
    refine wp_region_stage (w0 := w) (os := []) (by kernel_rfl) (by kernel_rfl) (by kernel_rfl) [(0, 3, [3], fun vs => .lines (vs 3) L1)] [[], [], [], [0, 2], [], [], [], [3], [0, 1], [], [], [], [], []] [.none, .lines (.slice Ax L1.length cx) L1, .grid p 58 ↑s L1, .box x 33 #[.int .i64 ↑s, .slice Ax L1.length cx], .box b9 56 (av16 ac), .box b8 48 #[.int .i64 ↑i, .int .i64 ↑j, .bool pe]] (fun opn u => match opn with | 0 => u = .bool true | 1 => u = .bool true | 2 => u = pt p 0 | 3 => ∃ A c, u = .slice A L1.length c | 4 => u = pt x 0 | 5 => u = pt x 0 | 6 => u = pt x 1 | 7 => u = .slice Ax L1.length cx | 8 => u = .bool true | 9 => u = .bool true | 10 => u = .bool true | 11 => u = .bool true | 12 => u = .bool true | 13 => u = .bool true | _ => True) (fun vs => [.lines (vs 3) L1, .lines (.slice Ax L1.length cx) L1, .grid p 58 ↑s L1, .box x 33 #[.int .i64 ↑s, .slice Ax L1.length cx], .box b9 56 (av16 ac), .box b8 48 #[.int .i64 ↑i, .int .i64 ↑j, .bool pe]]) (by kernel_rfl) (fun vs => by rfl) S8.out.pad ?_ ?_
    ·apply sc
     ·intro a w' vs σ hS hl hs hk
      have f19 : a.tmps[19]?.getD undef = .bool true := sof hk
      exact rp (.bool true) (by simp [execOp, Act.eval, f19, go_sem]) hl hs hS
     apply sc
     ·intro a w' vs σ hS hl hs hk
      have f135 : a.tmps[135]?.getD undef = .bool true := sf hk 0
      exact rp (.bool true) (by simp [execOp, Act.eval, f135, go_sem]) hl hs hS
     apply sc
     ·intro a w' vs σ hS hl hs hk
      have f11 : a.tmps[11]?.getD undef = .pointer (some ⟨p, 0, none⟩) := sof hk
      exact rq (pt p 0) (wanted_yes rfl rfl rfl (sv hk 1)) (by simp [execOp, Act.eval, f11, go_sem]) hl hs hS
     apply sc
     ·intro a w' vs σ hS hl hs hk
      have e137 : a.tmps.getD 137 undef = .pointer (some ⟨p, 0, none⟩) := sv hk 2
      have h1 : σ[0]? = some .none := hs 0 (by decide)
      exact ro_call (f := 20) (wanted_yes rfl rfl rfl (sv hk 1)) rfl (by simp only [List.map_toArray, List.map_cons, List.map_nil, Act.eval, e137] <;> rfl) (fun _ _ => by kernel_rfl) ((Lines_any hS (k := 2) (sg (hs 2 (by decide))) hc0 (HK1.out.1.mill hcm0) (by omega)).mono fun e w2 ⟨v9, h3, h2⟩ => ⟨v9, h3, sp_set 0 (.lines v9 L1) (by kernel_rfl) (by simp) (by decide) hl hs (by rfl) (h2.place (sg h1)) (by obtain ⟨A8, c8, e8, -, -⟩ := h2.linesRd (k := 0) rfl; exact ⟨A8, c8, e8⟩), trivial⟩)
     apply sc
     ·intro a w' vs σ hS hl hs hk
      have f13 : a.tmps[13]?.getD undef = .pointer (some ⟨x, 0, none⟩) := sof hk
      exact rq (pt x 0) (wanted_yes rfl rfl rfl (sv hk 1)) (by simp [execOp, Act.eval, f13, go_sem]) hl hs hS
     apply sc
     ·intro a w' vs σ hS hl hs hk
      have f139 : a.tmps[139]?.getD undef = .pointer (some ⟨x, 0, none⟩) := sf hk 4
      exact rq (pt x 0) (wanted_yes rfl rfl rfl (sv hk 1)) (by simp [execOp, Act.eval, f139, go_sem]) hl hs hS
     apply sc
     ·intro a w' vs σ hS hl hs hk
      have f140 : a.tmps[140]?.getD undef = .pointer (some ⟨x, 0, none⟩) := sf hk 5
      exact rq (pt x 1) (wanted_yes rfl rfl rfl (sv hk 1)) (by simp [execOp, Act.eval, f140, go_sem]) hl hs hS
     apply sc
     ·intro a w' vs σ hS hl hs hk
      have f141 : a.tmps[141]?.getD undef = .pointer (some ⟨x, 1, none⟩) := sf hk 6
      have hx := (hS.box (sg (hs 3 (by decide)))).cell
      exact rq (.slice Ax L1.length cx) (wanted_yes rfl rfl rfl (sv hk 1)) (by simp [execOp, Act.eval, f141, go_sem, hx]) hl hs hS
     apply sc
     ·intro a w' vs σ hS hl hs hk
      have e138 : a.tmps.getD 138 undef = vs 3 := sk_val hk 3 (by kernel_rfl) rfl rfl
      have p138 : (fun u : Value => ∃ A c, u = .slice A L1.length c) (vs 3) := (hk.1 3 (by kernel_rfl)).1
      have e142 : a.tmps.getD 142 undef = .slice Ax L1.length cx := sv hk 7
      obtain ⟨A9, c9, q9⟩ := p138
      rw [q9] at e138
      have h0 : σ[0]? = some (.lines (vs 3) L1) := hs 0 (by decide)
      rw [q9] at h0
      have hcon := r14SameLines_any A9 Ax c9 cx L1 L1 w' (hS.linesRd' (sg h0)).2.2 (hS.linesRd' (sg (hs 1 (by decide)))).2.2 (by omega) (by omega) (HK1.out.1.mill hcm0) (HK1.out.1.mill hcm0)
      rw [show decide (L1 = L1) = true by simp] at hcon
      exact ro_call (f := 19) (wanted_yes rfl rfl rfl (sv hk 1)) rfl (by simp only [List.map_toArray, List.map_cons, List.map_nil, Act.eval, e138, e142] <;> rfl) (fun _ _ => by kernel_rfl) (hcon.mono fun e w2 ⟨h1, h2⟩ => ⟨_, h1, sp_same (by kernel_rfl) hl hs (hS.bel h2) rfl, trivial⟩)
     apply sc
     ·intro a w' vs σ hS hl hs hk
      have f136 : a.tmps[136]?.getD undef = .bool true := sf hk 1
      have f143 : a.tmps[143]?.getD undef = .bool true := sf hk 8
      exact rp (.bool true) (by simp [execOp, Act.eval, f136, f143, go_sem]) hl hs hS
     apply sc
     ·intro a w' vs σ hS hl hs hk
      have f144 : a.tmps[144]?.getD undef = .bool true := sf hk 9
      exact rp (.bool true) (by simp [execOp, Act.eval, f144, go_sem]) hl hs hS
     apply sc
     ·intro a w' vs σ hS hl hs hk
      exact ro_call (f := 30) (wanted_yes rfl rfl rfl (sv hk 10)) rfl (by simp only [List.map_toArray, List.map_cons, List.map_nil, Act.eval] <;> rfl) (fun _ _ => by kernel_rfl) ((l16known_any w' (hS.tabs HT.out)).mono fun e w2 ⟨h1, h2⟩ => ⟨_, h1, sp_same (by kernel_rfl) hl hs (hS.bel h2) rfl, trivial⟩)
     apply sc
     ·intro a w' vs σ hS hl hs hk
      have f145 : a.tmps[145]?.getD undef = .bool true := sf hk 10
      have f146 : a.tmps[146]?.getD undef = .bool true := sf hk 11
      exact rp (.bool true) (by simp [execOp, Act.eval, f145, f146, go_sem]) hl hs hS
     apply sc
     ·intro a w' vs σ hS hl hs hk
      have f147 : a.tmps[147]?.getD undef = .bool true := sf hk 12
      exact rp (.bool true) (by simp [execOp, Act.eval, f147, go_sem]) hl hs hS
     exact SSteps.nil
    ·intro vs w' hS hv
     have q0 : vs 0 = _ := hv 0 (by decide)
     have q1 : vs 1 = _ := hv 1 (by decide)
     have q2 : vs 2 = _ := hv 2 (by decide)
     have q4 : vs 4 = _ := hv 4 (by decide)
     have q5 : vs 5 = _ := hv 5 (by decide)
     have q6 : vs 6 = _ := hv 6 (by decide)
     have q7 : vs 7 = _ := hv 7 (by decide)
     have q8 : vs 8 = _ := hv 8 (by decide)
     have q9 : vs 9 = _ := hv 9 (by decide)
     have q10 : vs 10 = _ := hv 10 (by decide)
     have q11 : vs 11 = _ := hv 11 (by decide)
     have q12 : vs 12 = _ := hv 12 (by decide)
     have q13 : vs 13 = _ := hv 13 (by decide)
     have S2 := Lib.hid hS
     simp only [putL, Act.put, Nat.zero_add, Nat.reduceAdd, List.setIfInBounds_toArray, List.set_cons_succ, List.set_cons_zero, q0, q1, q2, q4, q5, q6, q7, q8, q9, q10, q11, q12, q13]
     clear hS hv q0 q1 q2 q4 q5 q6 q7 q8 q9 q10 q11 q12 q13
     have S9 := S2
     clear S2 S8
     go_wp2_with fail
     go_ret
     exact ⟨rfl, S9.out.base⟩
  have hd9 : decide ((k : Int) < (rr : Int)) = true := decide_eq_true (by omega)
  go_wp2_with fail
  clear hd9
  go_loopw [16, 17] (fun vi _ wr => ∃ (c : Nat) (L0 : List Ln), c ≤ s ∧ vi = .int .i64 c ∧ Hid (Kept14 s rr L0) ∧ Objs w wr [.grid p 58 ↑s L0, .grid x 33 ↑s L0, .box b9 56 (av16 ac), .box b8 48 #[.int .i64 ro, .int .i64 co, .bool pe]]) (fun vi _ _ => s - (intOf vi).toNat)
  case atStart => exact ⟨0, L0, Nat.zero_le _, rfl, HK0, S.out⟩
  case round =>
   clear S HK0 L0
   obtain ⟨c, L0, hc, rfl, HK0, hS⟩ := hrel
   have S := Lib.hid hS
   clear hS
   rcases (show (¬ nw = 1 ∧ ¬ nw = 2) ∨ nw = 1 ∨ nw = 2 by omega) with hn | rfl | rfl
   ·have b1 := beq_no hn.1
    have b2 := beq_no hn.2
    clear hn
    go_wp2_with fail
    go_roundw
    case rel => exact ⟨k + 1, L0, by omega, by go_num, HK0, S.out⟩
    case measure => simp [intOf]; omega
   ·have hw2 : IntKind.i64.wrap ((c : Int) + 1) = (c : Int) + 1 := IntWalk.i64_in _ (by omega)
    by_cases hfit : (c : Int) + 1 ≤ (s : Int)
    case neg =>
     have d1 : decide ((c : Int) + 1 ≤ (s : Int)) = false := decide_eq_false hfit
     clear hfit
     go_wp2_with fail
     go_roundw
     case rel => exact ⟨k + 1, L0, by omega, by go_num, HK0, S.out⟩
     case measure => simp [intOf]; omega
    have d1 : decide ((c : Int) + 1 ≤ (s : Int)) = true := decide_eq_true hfit
    have HF := Lib.hid (show (c : Int) + (⟨fill, 0, 0, 0, 1, pen0⟩ : Cell).width ≤ s from hfit)
    have HYO := Lib.hid (show (⟨fill, 0, 0, 0, 1, pen0⟩ : Cell).ok = true by
     have := of_ok (r := fill) (q := pen0) (by rw [HW.out]; decide) (by decide +kernel)
     rwa [HW.out] at this)
    have HKL := Lib.hid (show k < L0.length by rw [HK0.out.2.1]; exact hlt)
    have HC2 := Lib.hid (show c + 1 ≤ s by omega)
    clear hfit
    go_upto_region 15 with (fail)
    refine at_objsC (S.out.alloc1 (c1 := cv (⟨fill, 0, 0, 0, 1, pen0⟩ : Cell)) (t1 := 71)) (fun W4 hW4 => ?_)
    generalize wr.heap.size = b17 at hW4 ⊢
    have S4 := Lib.hid hW4
    clear hW4 S
    have hc17 := (S4.out.box (k := 0) rfl).cellAt
    have hz17 := (S4.out.box (k := 0) rfl).lt
    go_wp2_with fail
    clear hc17 hz17
    refine (PutG (i := k) (j := c) (⟨fill, 0, 0, 0, 1, pen0⟩ : Cell) HT.out S4.out (k := 1) rfl hcm0 HK0.out.1 HKL.out HYO.out (show ¬ (1 : Int) = 0 by decide) HF.out).mono ?_
    rintro e w4 ⟨rfl, hS⟩
    have S5 := Lib.hid hS
    clear hS S4
    have hc17 := (S5.out.box (k := 0) rfl).cellAt
    have hz17 := (S5.out.box (k := 0) rfl).lt
    go_wp2_with fail
    clear hc17 hz17
    refine (r14PutG (i := k) (j := c) (⟨fill, 0, 0, 0, 1, pen0⟩ : Cell) S5.out (k := 2) rfl hcm0 HK0.out.1 HKL.out HYO.out (show ¬ (1 : Int) = 0 by decide) HF.out).mono ?_
    rintro e w5 ⟨rfl, hS⟩
    have HK1 := Lib.hid (HK0.out.put (i := k) (j := c) HYO.out (by simp) HF.out)
    obtain ⟨L1, hL1⟩ : ∃ L1, L1 = rowMod k (putC c (⟨fill, 0, 0, 0, 1, pen0⟩ : Cell)) L0 := ⟨_, rfl⟩
    have S6 := Lib.hid (show Objs w w5 [.grid p 58 ↑s L1, .grid x 33 ↑s L1, .box b9 56 (av16 ac), .box b8 48 #[.int .i64 ro, .int .i64 co, .bool pe]] from by rw [hL1]; exact (show Objs w w5 (_ :: _) from hS).tail)
    rw [← hL1] at HK1
    clear hS S5 hL1 HKL HYO HF HK0
    go_wp2_with fail
    go_roundw
    case rel => exact ⟨c + 1, L1, HC2.out, by go_num, HK1, S6.out⟩
    case measure =>
     have h9 := HC2.out
     simp [intOf, hw2]
     omega
   ·have hw2 : IntKind.i64.wrap ((c : Int) + 2) = (c : Int) + 2 := IntWalk.i64_in _ (by omega)
    by_cases hfit : (c : Int) + 2 ≤ (s : Int)
    case neg =>
     have d1 : decide ((c : Int) + 2 ≤ (s : Int)) = false := decide_eq_false hfit
     clear hfit
     go_wp2_with fail
     go_roundw
     case rel => exact ⟨k + 1, L0, by omega, by go_num, HK0, S.out⟩
     case measure => simp [intOf]; omega
    have d1 : decide ((c : Int) + 2 ≤ (s : Int)) = true := decide_eq_true hfit
    have HF := Lib.hid (show (c : Int) + (⟨fill, 0, 0, 0, 2, pen0⟩ : Cell).width ≤ s from hfit)
    have HYO := Lib.hid (show (⟨fill, 0, 0, 0, 2, pen0⟩ : Cell).ok = true by
     have := of_ok (r := fill) (q := pen0) (by rw [HW.out]; decide) (by decide +kernel)
     rwa [HW.out] at this)
    have HKL := Lib.hid (show k < L0.length by rw [HK0.out.2.1]; exact hlt)
    have HC2 := Lib.hid (show c + 2 ≤ s by omega)
    clear hfit
    go_upto_region 15 with (fail)
    refine at_objsC (S.out.alloc1 (c1 := cv (⟨fill, 0, 0, 0, 2, pen0⟩ : Cell)) (t1 := 71)) (fun W4 hW4 => ?_)
    generalize wr.heap.size = b17 at hW4 ⊢
    have S4 := Lib.hid hW4
    clear hW4 S
    have hc17 := (S4.out.box (k := 0) rfl).cellAt
    have hz17 := (S4.out.box (k := 0) rfl).lt
    go_wp2_with fail
    clear hc17 hz17
    refine (PutG (i := k) (j := c) (⟨fill, 0, 0, 0, 2, pen0⟩ : Cell) HT.out S4.out (k := 1) rfl hcm0 HK0.out.1 HKL.out HYO.out (show ¬ (2 : Int) = 0 by decide) HF.out).mono ?_
    rintro e w4 ⟨rfl, hS⟩
    have S5 := Lib.hid hS
    clear hS S4
    have hc17 := (S5.out.box (k := 0) rfl).cellAt
    have hz17 := (S5.out.box (k := 0) rfl).lt
    go_wp2_with fail
    clear hc17 hz17
    refine (r14PutG (i := k) (j := c) (⟨fill, 0, 0, 0, 2, pen0⟩ : Cell) S5.out (k := 2) rfl hcm0 HK0.out.1 HKL.out HYO.out (show ¬ (2 : Int) = 0 by decide) HF.out).mono ?_
    rintro e w5 ⟨rfl, hS⟩
    have HK1 := Lib.hid (HK0.out.put (i := k) (j := c) HYO.out (by simp) HF.out)
    obtain ⟨L1, hL1⟩ : ∃ L1, L1 = rowMod k (putC c (⟨fill, 0, 0, 0, 2, pen0⟩ : Cell)) L0 := ⟨_, rfl⟩
    have S6 := Lib.hid (show Objs w w5 [.grid p 58 ↑s L1, .grid x 33 ↑s L1, .box b9 56 (av16 ac), .box b8 48 #[.int .i64 ro, .int .i64 co, .bool pe]] from by rw [hL1]; exact (show Objs w w5 (_ :: _) from hS).tail)
    rw [← hL1] at HK1
    clear hS S5 hL1 HKL HYO HF HK0
    go_wp2_with fail
    go_roundw
    case rel => exact ⟨c + 2, L1, HC2.out, by go_num, HK1, S6.out⟩
    case measure =>
     have h9 := HC2.out
     simp [intOf, hw2]
     omega
end Go.Proofs.YtppijfjigcoifaaDoor
