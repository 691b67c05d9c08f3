/-
  Part 5 of the texts on which the proofs of this seat stand: each part says ahead of it what it shows.
-/
import Derived.Test.YtppijfjigcoifaaDoorQ4
set_option linter.unusedSimpArgs false
set_option linter.unusedVariables false
namespace Go.Proofs.YtppijfjigcoifaaDoor
open Go.RowKit

theorem RdL.part0 {w : World} {b c c' a m : Nat} {L : List Ln} (h : RdL w (some ⟨b, 0, none⟩) c L) (ham : a + m ≤ L.length) (hm : m ≤ c') : RdL w (some ⟨b, a * 2, none⟩) c' ((L.drop a).take m) := by
 have := h.part ham hm; rwa [Nat.zero_add] at this
theorem RdL.part1 {w : World} {b c c' a j m : Nat} {L : List Ln} (h : RdL w (some ⟨b, 0, none⟩) c L) (ham : a + j + m ≤ L.length) (hm : m ≤ c') : RdL w (some ⟨b, a * 2 + j * 2, none⟩) c' ((L.drop (a + j)).take m) := by
 have := h.part0 (a := a + j) ham hm; rwa [Nat.add_mul] at this
section
variable {w0 w : World} {os : List Ob}
theorem ord_a {a v b7 b5 bx : Ob} (h : Objs w0 w (a :: v :: b7 :: b5 :: bx :: os)) : Objs w0 w (a :: b7 :: bx :: v :: b5 :: os) := by
 have h1 := (h.lift (k := 4) rfl : Objs w0 w (bx :: a :: v :: b7 :: b5 :: .none :: os)).del 5
 have h2 := ((show Objs w0 w (bx :: a :: v :: b7 :: b5 :: os) from h1).lift (k := 3) rfl : Objs w0 w (b7 :: bx :: a :: v :: .none :: b5 :: os)).del 4
 have h3 := ((show Objs w0 w (b7 :: bx :: a :: v :: b5 :: os) from h2).lift (k := 2) rfl : Objs w0 w (a :: b7 :: bx :: .none :: v :: b5 :: os)).del 3
 exact h3
theorem ord_b {a v b7 b5 bx : Ob} (h : Objs w0 w (a :: b7 :: bx :: v :: b5 :: os)) : Objs w0 w (v :: a :: b7 :: bx :: b5 :: os) :=
 ((h.lift (k := 3) rfl : Objs w0 w (v :: a :: b7 :: bx :: .none :: b5 :: os)).del 4)
end
section
variable {w0 w : World} {os : List Ob} {x cols : Nat} {L : List Ln}
set_option maxRecDepth 100000 in
set_option maxHeartbeats 8000000 in
theorem r14Roll_pos {top bot k : Nat} {n : Int} (q : Pen) (hS : Objs w0 w (.grid x 33 cols L :: os)) (hcm : cols ≤ 1000) (hL : L.length ≤ 1000) (hmill : ∀ l ∈ L, l.1.length ≤ 1000000) (htb : top ≤ bot) (hbl : bot < L.length) (hn : 0 < n) (hk : (n < ((bot + 1 - top : Nat) : Int) ∧ n = (k : Int)) ∨ ((((bot + 1 - top : Nat) : Int) ≤ n ∧ n ≤ 9223372036854775807) ∧ k = bot + 1 - top)) :
  Calls Tryd.prog 83 #[.pointer (some ⟨x, 0, none⟩), .agg #[.int .i64 top, .int .i64 bot], .int .i64 n, .agg (pv q)] w fun e w' => ∃ A m c, e = .returned (.slice A m c) ∧ Objs w0 w' (.lines (.slice A m c) (rollGone top bot n L) :: .grid x 33 cols (rollL top bot n q cols L) :: os) := by
 have S := Lib.hid hS
 have HMILL := Lib.hid hmill
 obtain ⟨many, hmany⟩ : ∃ many, many = bot + 1 - top := ⟨_, rfl⟩
 have HMANY := Lib.hid hmany
 have hb0 := beq_no (show ¬ n = 0 by omega)
 have HK := Lib.hid hk
 have HMI := Lib.hid (show (bot : Int) - (top : Int) + 1 = (many : Int) by omega)
 have HBI := Lib.hid (show bot + 1 - top = many from hmany.symm)
 have hmb : many ≤ 1000 := by omega
 have hm1 : 0 < many := by omega
 have htm : top + many ≤ L.length := by omega
 have hkm : k ≤ many := by omega
 have hk0 : 0 < k := by omega
 rw [← hmany] at hk
 have HKK := Lib.hid (rollK_is (n := n) (k := k) hmany (by rcases hk with ⟨a1, a2⟩ | ⟨⟨a1, a3⟩, a2⟩ <;> omega))
 clear hS hmany hmill
 go_enter Tryd.func83, Tryd.ntmps83
 go_upto_region 1 with (fail)
 refine at_objsC S.out.alloc2 (fun W hW => ?_)
 generalize w.heap.size + 1 = b7 at hW ⊢
 generalize w.heap.size = b5 at hW ⊢
 obtain ⟨v, hS1⟩ := hW.openGrid (k := 2) rfl
 obtain ⟨A, c, rfl, hcmx, hrl⟩ := hS1.linesRd (k := 0) rfl
 have hlc : L.length ≤ c := hrl.1
 obtain ⟨gr, off0, rfl, -⟩ : ∃ b off, A = some ⟨b, off, none⟩ ∧ True := by obtain ⟨b, off, e, -⟩ := hrl.2.2 (by omega); exact ⟨b, off, e, trivial⟩
 obtain rfl : off0 = 0 := by
  obtain ⟨F, bs, hF, -⟩ := hS1.get (k := 0) rfl
  obtain ⟨A2, c2, e2, -, -, -, h4⟩ := hF.form
  simp only [Value.slice.injEq, true_and] at e2
  obtain ⟨rfl, rfl⟩ := e2
  obtain ⟨g, e3, -⟩ := h4 (by omega)
  cases e3; rfl
 have S1 := Lib.hid (ord_a (show Objs w0 W (.lines (.slice none 0 0) [] :: .lines (.slice (some ⟨gr, 0, none⟩) L.length c) L :: .box b7 54 (pv q) :: .box b5 106 #[.int .i64 top, .int .i64 bot] :: .box x 33 #[.int .i64 cols, .slice (some ⟨gr, 0, none⟩) L.length c] :: os) from hS1.nilLines))
 obtain ⟨hx5, hf5, hz5⟩ := (hS1.box (k := 2) rfl).facts
 have hctop : many ≤ c - top := by omega
 clear hW hS1 hrl
 rcases hk with ⟨h1, h2⟩ | ⟨⟨h1, h3⟩, h2⟩
 ·subst h2
  have hmax : max (k : Int) (-(k : Int)) = (k : Int) := by omega
  have hnm : -(many : Int) < (k : Int) := by omega
  have hkl : k < many := by omega
  have hmi := HMI.out
  go_wp2_with fail
  go_loopw [11, 12] (fun u11 vi wr => ∃ (d : Nat) (vf : Value), d ≤ k ∧ vf = u11 ∧ vi = .int .i64 d ∧ Objs w0 wr (.lines vf (rollFresh d cols q) :: .box b7 54 (pv q) :: .box x 33 #[.int .i64 cols, .slice (some ⟨gr, 0, none⟩) L.length c] :: .lines (.slice (some ⟨gr, 0, none⟩) L.length c) L :: .box b5 106 #[.int .i64 top, .int .i64 bot] :: os)) (fun _ vi _ => k - (intOf vi).toNat)
  case atStart => exact ⟨0, _, by omega, rfl, rfl, S1.out⟩
  case round =>
   obtain ⟨d, vf, hdk, rfl, rfl, hS⟩ := hrel
   have S2 := Lib.hid hS
   clear hS S1
   by_cases hlt : d < k
   ·have SZ := Lib.hid S2.out.pad.pad
    clear S2
    go_upto_region 11 with (fail)
    refine wp_region_stage (w0 := w0) (os := (.lines (.slice (some ⟨gr, 0, none⟩) L.length c) L :: .box b5 106 #[.int .i64 ↑top, .int .i64 ↑bot] :: os)) (by kernel_rfl) (by kernel_rfl) (by kernel_rfl) [(0, 6, [6], fun vs => .cells (lineV (vs 6)) (List.replicate cols (blank q))), (1, 7, [6, 7], fun vs => .box (blkOf (vs 7)) 39 #[lineV (vs 6), .bool false]), (2, 8, [8], fun vs => .lines (vs 8) (rollFresh (d + 1) cols q)), (0, 8, [], fun vs => .none), (2, 9, [9], fun vs => .lines (vs 9) (rollFresh (d + 1) cols q))] [[], [], [], [], [4], [3], [0], [1], [0, 1, 2], [2]] [.none, .none, .lines vf (rollFresh d cols q), .box b7 54 (pv q), .box x 33 #[.int .i64 ↑cols, .slice (some ⟨gr, 0, none⟩) L.length c]] (fun i u => match i with | 0 => u = (vf : Value) | 1 => u = pt x 0 | 2 => u = pt x 0 | 3 => u = pt x 0 | 4 => u = .int .i64 ↑cols | 5 => u = .agg (pv q) | 6 => ∃ y, u = .agg #[y, .bool false] | 7 => ∃ g, u = .slice (some ⟨g, 0, none⟩) 1 1 | 8 => ∃ A m c, u = .slice A m c | 9 => ∃ A m c, u = .slice A m c | _ => True) (fun vs => [.none, .box (blkOf (vs 7)) 39 #[lineV (vs 6), .bool false], .lines (vs 9) (rollFresh (d + 1) cols q), .box b7 54 (pv q), .box x 33 #[.int .i64 ↑cols, .slice (some ⟨gr, 0, none⟩) L.length c]]) (by kernel_rfl) (fun vs => by rfl) SZ.out ?_ ?_
    ·apply sc
     ·intro a w' vs σ hS hl hs hk
      have e11 : a.tmps.getD 11 undef = (vf : Value) := (sk_later hk 9 (by kernel_rfl) rfl rfl).trans rfl
      have f11 := gd e11
      exact rp vf (by simp [execOp, Act.eval, e11, f11, go_sem]) hl hs hS
     apply sc
     ·intro a w' vs σ hS hl hs hk
      have f0 : a.tmps[0]?.getD undef = .pointer (some ⟨x, 0, none⟩) := sof hk
      exact rp (pt x 0) (by simp [execOp, Act.eval, f0, go_sem]) hl hs hS
     apply sc
     ·intro a w' vs σ hS hl hs hk
      have f46 : a.tmps[46]?.getD undef = .pointer (some ⟨x, 0, none⟩) := sf hk 1
      exact rp (pt x 0) (by simp [execOp, Act.eval, f46, go_sem]) hl hs hS
     apply sc
     ·intro a w' vs σ hS hl hs hk
      have f47 : a.tmps[47]?.getD undef = .pointer (some ⟨x, 0, none⟩) := sf hk 2
      exact rp (pt x 0) (by simp [execOp, Act.eval, f47, go_sem]) hl hs hS
     apply sc
     ·intro a w' vs σ hS hl hs hk
      have f48 : a.tmps[48]?.getD undef = .pointer (some ⟨x, 0, none⟩) := sf hk 3
      have hx := (hS.box (sg (hs 4 (by decide)))).cell
      exact rp (.int .i64 ↑cols) (by simp [execOp, Act.eval, f48, go_sem, hx]) hl hs hS
     apply sc
     ·intro a w' vs σ hS hl hs hk
      have f7 : a.tmps[7]?.getD undef = .pointer (some ⟨b7, 0, none⟩) := sof hk
      have hx := (hS.box (sg (hs 3 (by decide)))).penAt
      exact rp (.agg (pv q)) (by simp [execOp, Act.eval, f7, go_sem, hx]) hl hs hS
     apply sc
     ·intro a w' vs σ hS hl hs hk
      have e49 : a.tmps.getD 49 undef = .int .i64 ↑cols := sv hk 4
      have e50 : a.tmps.getD 50 undef = .agg (pv q) := sv hk 5
      have h0 : σ[0]? = some .none := hs 0 (by decide)
      exact ro_call (f := 59) (wanted_none rfl) rfl (by simp only [List.map_toArray, List.map_cons, List.map_nil, Act.eval, e49, e50] <;> rfl) (fun _ _ => by kernel_rfl) ((r14Blanks_any cols (by omega) q w0 w' _ hS).mono fun e w2 ⟨y, h1, h2⟩ => ⟨_, h1, sp_set 0 (.cells y (List.replicate cols (blank q))) (by kernel_rfl) (by simp) (by decide) hl hs (by rfl) (h2.place (sg h0)) ⟨y, rfl⟩, trivial⟩)
     apply sc
     ·intro a w' vs σ hS hl hs hk
      have e51 : a.tmps.getD 51 undef = vs 6 := sk_val hk 6 (by kernel_rfl) rfl rfl
      have p51 : (fun u : Value => ∃ y, u = .agg #[y, .bool false]) (vs 6) := (hk.1 6 (by kernel_rfl)).1
      obtain ⟨y, hx⟩ := p51
      have e9 := e51.trans hx
      have f9 := gd e9
      have h1 : σ[1]? = some .none := hs 1 (by decide)
      exact rs_run (wanted_none rfl) (exec_bsl rfl (by simp [Act.eval, e9, f9]) (run_bsl y false w')) (sp_set 1 (.box w'.heap.size 39 #[y, .bool false]) (by kernel_rfl) (by simp) (by decide) hl hs (by show Ob.box (blkOf (.slice (some ⟨w'.heap.size, 0, none⟩) 1 1)) 39 #[lineV (vs 6), .bool false] = _; rw [hx]; rfl) (hS.alloc1.place (sg h1)) ⟨_, rfl⟩)
     apply sc
     ·intro a w' vs σ hS hl hs hk
      have e45 : a.tmps.getD 45 undef = (vf : Value) := sv hk 0
      have e52 : a.tmps.getD 52 undef = vs 7 := sk_val hk 7 (by kernel_rfl) rfl rfl
      have p52 : (fun u : Value => ∃ g, u = .slice (some ⟨g, 0, none⟩) 1 1) (vs 7) := (hk.1 7 (by kernel_rfl)).1
      have h2 : σ[2]? = some (.lines vf (rollFresh d cols q)) := hs 2 (by decide)
      have h0 : σ[0]? = some (.cells (lineV (vs 6)) (List.replicate cols (blank q))) := hs 0 (by decide)
      have h1 : σ[1]? = some (.box (blkOf (vs 7)) 39 #[lineV (vs 6), .bool false]) := hs 1 (by decide)
      obtain ⟨g8, hg8⟩ := p52
      rw [hg8, show blkOf (.slice (some ⟨g8, 0, none⟩) 1 1) = g8 from rfl] at h1
      obtain ⟨v9, w9, hr, hS2, A9, c9, hv9⟩ := run_appL hS (k := 2) (j := 0) (ad := ⟨g8, 0, none⟩) (c := 1) (s := false) (sg h2) (sg h0) (by decide) (by rw [(hS.box (sg h1)).cell]; rfl) (by rw [add_at, (hS.box (sg h1)).cell]; rfl) (by simp [rollFresh]; omega) 30
      rw [show rollFresh d cols q ++ [((List.replicate cols (blank q)), false)] = (rollFresh (d + 1) cols q) from (List.replicate_succ' ..).symm] at hS2
      exact rs_run (wanted_none rfl) (exec_app rfl (by simp only [Act.eval]; exact e45) (by simp only [Act.eval]; exact e52.trans hg8) hr) (sp_set2 2 0 (.lines v9 (rollFresh (d + 1) cols q)) .none (by decide) (by kernel_rfl) (by simp) (by simp) (by decide) (by decide) hl hs (by rfl) (by rfl) hS2 ⟨A9, _, c9, hv9⟩)
     apply sc
     ·intro a w' vs σ hS hl hs hk
      have e53 : a.tmps.getD 53 undef = vs 8 := sk_val hk 8 (by kernel_rfl) rfl rfl
      have p53 : (fun u : Value => ∃ A m c, u = .slice A m c) (vs 8) := (hk.1 8 (by kernel_rfl)).1
      obtain ⟨A9, n9, c9, q9⟩ := p53
      have e9 := e53.trans q9
      have f9 := gd e9
      have h2 : σ[2]? = some (.lines (vs 8) (rollFresh (d + 1) cols q)) := hs 2 (by decide)
      rw [q9] at h2
      have hSS : Objs w0 w' ((σ ++ (.lines (.slice (some ⟨gr, 0, none⟩) L.length c) L :: .box b5 106 #[.int .i64 ↑top, .int .i64 ↑bot] :: os)).set 2 (.lines (.slice A9 n9 c9) (rollFresh (d + 1) cols q))) := by rw [set_self (sg h2)]; exact hS
      exact rs_run (v' := .slice A9 n9 c9) (w' := w') (wanted_none rfl) (by simp [execOp, Act.eval, e9, f9, go_sem]) (sp_set 2 (.lines (.slice A9 n9 c9) (rollFresh (d + 1) cols q)) (by kernel_rfl) (by simp) (by decide) hl hs (by rfl) hSS ⟨A9, n9, c9, rfl⟩)
     exact SSteps.nil
    ·intro vs w' hS hv
     have q0 : vs 0 = _ := hv 0 (by decide)
     have q1 : vs 1 = _ := hv 1 (by decide)
     have q2 : vs 2 = _ := hv 2 (by decide)
     have q3 : vs 3 = _ := hv 3 (by decide)
     have q4 : vs 4 = _ := hv 4 (by decide)
     have q5 : vs 5 = _ := hv 5 (by decide)
     have S2 := Lib.hid hS
     simp only [putL, Act.put, Nat.zero_add, Nat.reduceAdd, List.setIfInBounds_toArray, List.set_cons_succ, List.set_cons_zero, q0, q1, q2, q3, q4, q5]
     clear hS hv q0 q1 q2 q3 q4 q5
     go_wp2_with fail
     go_roundw
     case rel => exact ⟨d + 1, vs 9, by omega, rfl, by go_num, (S2.out.del 0).del 0⟩
     case measure => simp [intOf]; omega
   obtain rfl : k = d := by omega
   have S3 := Lib.hid (ord_b S2.out)
   obtain ⟨hxx, hfx, hzx⟩ := (S3.out.box (k := 3) rfl).facts
   clear hx5 hf5 hz5
   obtain ⟨hx5, hf5, hz5⟩ := (S3.out.box (k := 4) rfl).facts
   clear S2
   go_wp2_with fail
   refine wp_region_below (by kernel_rfl) (by kernel_rfl) ?_
   repeat (go_big_quiet_step (fail))
   refine wpQuiet_nil ?_
   intro w2 hb2
   have SZ := Lib.hid (S3.out.bel hb2).pad.pad
   clear hxx hfx hzx hx5 hf5 hz5 S3 hb2
   simp only [HBI.out]
   have hkz : (0 : Int) ≤ (k : Int) := by omega
   have hkz2 : (k : Int) ≤ (many : Int) := by omega
   have hkz3 : k ≤ c - top := by omega
   have hkz4 : ¬ c - top = k := by omega
   go_wp2_with fail
   refine wp_region_stage (w0 := w0) (os := (.lines vf (rollFresh k cols q) :: .box b7 54 (pv q) :: .box x 33 #[.int .i64 ↑cols, .slice (some ⟨gr, 0, none⟩) L.length c] :: .box b5 106 #[.int .i64 ↑top, .int .i64 ↑bot] :: os)) (by kernel_rfl) (by kernel_rfl) (by kernel_rfl) [(0, 3, [3], fun vs => .lines (vs 3) ((L.drop top).take k)), (1, 7, [7], fun vs => .lines (vs 7) ((L.drop (top + k)).take (many - k))), (0, 8, [8], fun vs => .lines (vs 8) ((L.drop top).take k)), (1, 9, [9], fun vs => .lines (vs 9) ((L.drop (top + k)).take (many - k)))] [[], [], [], [0, 2], [], [], [], [1, 2], [0], [1]] [.none, .none, .lines (.slice (some ⟨gr, 0, none⟩) L.length c) L] (fun i u => match i with | 0 => u = .slice (some ⟨gr, top * 2, none⟩) many (c - top) | 1 => u = .int .i64 ↑k | 2 => u = .slice (some ⟨gr, top * 2, none⟩) k (c - top) | 3 => ∃ A m c, u = .slice A m c | 4 => u = .slice (some ⟨gr, top * 2, none⟩) many (c - top) | 5 => u = .int .i64 ↑k | 6 => u = .slice (some ⟨gr, top * 2 + k * 2, none⟩) (many - k) (c - top - k) | 7 => ∃ A m c, u = .slice A m c | 8 => ∃ A m c, u = .slice A m c | 9 => ∃ A m c, u = .slice A m c | _ => True) (fun vs => [.lines (vs 8) ((L.drop top).take k), .lines (vs 9) ((L.drop (top + k)).take (many - k)), .lines (.slice (some ⟨gr, 0, none⟩) L.length c) L]) (by kernel_rfl) (fun vs => by rfl) SZ.out ?_ ?_
   ·apply sc
    ·intro a w' vs σ hS hl hs hk
     have f13 : a.tmps[13]?.getD undef = .slice (some ⟨gr, top * 2, none⟩) many (c - top) := sof hk
     exact rp (.slice (some ⟨gr, top * 2, none⟩) many (c - top)) (by simp [execOp, Act.eval, f13, go_sem]) hl hs hS
    apply sc
    ·intro a w' vs σ hS hl hs hk
     have f10 : a.tmps[10]?.getD undef = .int .i64 ↑k := sof hk
     exact rp (.int .i64 ↑k) (by simp [execOp, Act.eval, f10, go_sem]) hl hs hS
    apply sc
    ·intro a w' vs σ hS hl hs hk
     have f66 : a.tmps[66]?.getD undef = .slice (some ⟨gr, top * 2, none⟩) many (c - top) := sf hk 0
     have f67 : a.tmps[67]?.getD undef = .int .i64 ↑k := sf hk 1
     exact rp (.slice (some ⟨gr, top * 2, none⟩) k (c - top)) (by simp [execOp, Act.eval, f66, f67, go_sem, hkz, hkz2, hkz3, hkz4]) hl hs hS
    apply sc
    ·intro a w' vs σ hS hl hs hk
     have e68 : a.tmps.getD 68 undef = .slice (some ⟨gr, top * 2, none⟩) k (c - top) := sv hk 2
     have hn : σ[0]? = some .none := hs 0 (by decide)
     have h2 : σ[2]? = some (.lines (.slice (some ⟨gr, 0, none⟩) L.length c) L) := hs 2 (by decide)
     have hrl := (hS.linesRd' (sg h2)).2.2
     exact ro_call (f := 24) (wanted_none rfl) rfl (by simp only [List.map_toArray, List.map_cons, List.map_nil, Act.eval, e68] <;> rfl) (fun _ _ => by kernel_rfl) ((copies_at (L := ((L.drop top).take k)) (by simp; omega) (hrl.part0 (by omega) (by omega)) (by simp; omega) (fun l hl => HMILL.out l (List.mem_of_mem_drop (List.mem_of_mem_take hl)))).mono fun e w2 ⟨y, h1, h2⟩ => ⟨_, h1, sp_set 0 (.lines y ((L.drop top).take k)) (by kernel_rfl) (by simp) (by decide) hl hs (by rfl) ((hS.nest h2).place (sg hn)) (by obtain ⟨A, c, e, -⟩ := h2.linesRd (k := 0) rfl; exact ⟨A, _, c, e⟩), trivial⟩)
    apply sc
    ·intro a w' vs σ hS hl hs hk
     have f13 : a.tmps[13]?.getD undef = .slice (some ⟨gr, top * 2, none⟩) many (c - top) := sof hk
     exact rp (.slice (some ⟨gr, top * 2, none⟩) many (c - top)) (by simp [execOp, Act.eval, f13, go_sem]) hl hs hS
    apply sc
    ·intro a w' vs σ hS hl hs hk
     have f10 : a.tmps[10]?.getD undef = .int .i64 ↑k := sof hk
     exact rp (.int .i64 ↑k) (by simp [execOp, Act.eval, f10, go_sem]) hl hs hS
    apply sc
    ·intro a w' vs σ hS hl hs hk
     have f70 : a.tmps[70]?.getD undef = .slice (some ⟨gr, top * 2, none⟩) many (c - top) := sf hk 4
     have f71 : a.tmps[71]?.getD undef = .int .i64 ↑k := sf hk 5
     exact rp (.slice (some ⟨gr, top * 2 + k * 2, none⟩) (many - k) (c - top - k)) (by simp [execOp, Act.eval, f70, f71, go_sem, hkz, hkz2, hkz3, hkz4]) hl hs hS
    apply sc
    ·intro a w' vs σ hS hl hs hk
     have e72 : a.tmps.getD 72 undef = .slice (some ⟨gr, top * 2 + k * 2, none⟩) (many - k) (c - top - k) := sv hk 6
     have hn : σ[1]? = some .none := hs 1 (by decide)
     have h2 : σ[2]? = some (.lines (.slice (some ⟨gr, 0, none⟩) L.length c) L) := hs 2 (by decide)
     have hrl := (hS.linesRd' (sg h2)).2.2
     exact ro_call (f := 24) (wanted_none rfl) rfl (by simp only [List.map_toArray, List.map_cons, List.map_nil, Act.eval, e72] <;> rfl) (fun _ _ => by kernel_rfl) ((copies_at (L := ((L.drop (top + k)).take (many - k))) (by simp; omega) (hrl.part1 (by omega) (by omega)) (by simp; omega) (fun l hl => HMILL.out l (List.mem_of_mem_drop (List.mem_of_mem_take hl)))).mono fun e w2 ⟨y, h1, h2⟩ => ⟨_, h1, sp_set 1 (.lines y ((L.drop (top + k)).take (many - k))) (by kernel_rfl) (by simp) (by decide) hl hs (by rfl) ((hS.nest h2).place (sg hn)) (by obtain ⟨A, c, e, -⟩ := h2.linesRd (k := 0) rfl; exact ⟨A, _, c, e⟩), trivial⟩)
    apply sc
    ·intro a w' vs σ hS hl hs hk
     have e69 : a.tmps.getD 69 undef = vs 3 := sk_val hk 3 (by kernel_rfl) rfl rfl
     have p69 : (fun u : Value => ∃ A m c, u = .slice A m c) (vs 3) := (hk.1 3 (by kernel_rfl)).1
     obtain ⟨A9, n9, c9, q9⟩ := p69
     have e9 := e69.trans q9
     have f9 := gd e9
     have h2 : σ[0]? = some (.lines (vs 3) ((L.drop top).take k)) := hs 0 (by decide)
     rw [q9] at h2
     have hSS : Objs w0 w' ((σ ++ (.lines vf (rollFresh k cols q) :: .box b7 54 (pv q) :: .box x 33 #[.int .i64 ↑cols, .slice (some ⟨gr, 0, none⟩) L.length c] :: .box b5 106 #[.int .i64 ↑top, .int .i64 ↑bot] :: os)).set 0 (.lines (.slice A9 n9 c9) ((L.drop top).take k))) := by rw [set_self (sg h2)]; exact hS
     exact rs_run (v' := .slice A9 n9 c9) (w' := w') (wanted_none rfl) (by simp [execOp, Act.eval, e9, f9, go_sem]) (sp_set 0 (.lines (.slice A9 n9 c9) ((L.drop top).take k)) (by kernel_rfl) (by simp) (by decide) hl hs (by rfl) hSS ⟨A9, n9, c9, rfl⟩)
    apply sc
    ·intro a w' vs σ hS hl hs hk
     have e73 : a.tmps.getD 73 undef = vs 7 := sk_val hk 7 (by kernel_rfl) rfl rfl
     have p73 : (fun u : Value => ∃ A m c, u = .slice A m c) (vs 7) := (hk.1 7 (by kernel_rfl)).1
     obtain ⟨A9, n9, c9, q9⟩ := p73
     have e9 := e73.trans q9
     have f9 := gd e9
     have h2 : σ[1]? = some (.lines (vs 7) ((L.drop (top + k)).take (many - k))) := hs 1 (by decide)
     rw [q9] at h2
     have hSS : Objs w0 w' ((σ ++ (.lines vf (rollFresh k cols q) :: .box b7 54 (pv q) :: .box x 33 #[.int .i64 ↑cols, .slice (some ⟨gr, 0, none⟩) L.length c] :: .box b5 106 #[.int .i64 ↑top, .int .i64 ↑bot] :: os)).set 1 (.lines (.slice A9 n9 c9) ((L.drop (top + k)).take (many - k)))) := by rw [set_self (sg h2)]; exact hS
     exact rs_run (v' := .slice A9 n9 c9) (w' := w') (wanted_none rfl) (by simp [execOp, Act.eval, e9, f9, go_sem]) (sp_set 1 (.lines (.slice A9 n9 c9) ((L.drop (top + k)).take (many - k))) (by kernel_rfl) (by simp) (by decide) hl hs (by rfl) hSS ⟨A9, n9, c9, rfl⟩)
    exact SSteps.nil
   ·intro vs w' hS hv
    have q0 : vs 0 = _ := hv 0 (by decide)
    have q1 : vs 1 = _ := hv 1 (by decide)
    have q2 : vs 2 = _ := hv 2 (by decide)
    have q4 : vs 4 = _ := hv 4 (by decide)
    have q5 : vs 5 = _ := hv 5 (by decide)
    have q6 : vs 6 = _ := hv 6 (by decide)
    obtain ⟨Ag, mg, cg, qg⟩ := (show ∃ A m c, vs 8 = .slice A m c from hv 8 (by decide))
    obtain ⟨As, ms, cs, qs⟩ := (show ∃ A m c, vs 9 = .slice A m c from hv 9 (by decide))
    rw [qg, qs] at hS
    obtain ⟨A1, n1, c1, q1⟩ := (show ∃ A m c, vs 3 = .slice A m c from hv 3 (by decide))
    obtain ⟨A2, n2, c2, q2⟩ := (show ∃ A m c, vs 7 = .slice A m c from hv 7 (by decide))
    have S2 := Lib.hid hS
    simp only [putL, Act.put, Nat.zero_add, Nat.reduceAdd, List.setIfInBounds_toArray, List.set_cons_succ, List.set_cons_zero, q0, q1, q2, q4, q5, q6]
    clear hS hv q0 q1 q2 q4 q5 q6
    simp only [qg, qs, q1, q2]
    have hSl0 : ((L.drop (top + k)).take (many - k)).length = many - k := by simp; omega
    have hGl0 : ((L.drop top).take k).length = k := by simp; omega
    have emg : k = mg := ((show Objs w0 w' (.lines (.slice Ag mg cg) ((L.drop top).take k) :: _) from S2.out).linesRd' (k := 0) rfl |>.1.trans hGl0).symm
    have ems : ms = many - k := (show Objs w0 w' (_ :: .lines (.slice As ms cs) ((L.drop (top + k)).take (many - k)) :: _) from S2.out).linesRd' (k := 1) rfl |>.1.trans hSl0
    subst emg ems
    obtain ⟨St, hSt⟩ : ∃ St, St = (L.drop (top + k)).take (many - k) := ⟨_, rfl⟩
    obtain ⟨G, hG⟩ : ∃ G, G = (L.drop top).take k := ⟨_, rfl⟩
    rw [← hSt] at hSl0
    have hS2 := (show Objs w0 w' (.lines (.slice Ag k cg) G :: .lines (.slice As (many - k) cs) St :: .lines (.slice (some ⟨gr, 0, none⟩) L.length c) L :: .lines vf (rollFresh k cols q) :: .box b7 54 (pv q) :: .box x 33 #[.int .i64 cols, .slice (some ⟨gr, 0, none⟩) L.length c] :: .box b5 106 #[.int .i64 top, .int .i64 bot] :: os) from by rw [hG, hSt]; exact S2.out)
    have HGONE := Lib.hid (show G = rollGone top bot (k : Int) L by rw [hG]; exact rgone_pos hn HMANY.out HKK.out hkm)
    obtain ⟨ls, hls⟩ := get_of (show St.length - 1 < St.length by omega)
    obtain ⟨FS, bS, hFS, -⟩ := hS2.get (k := 1) rfl
    obtain ⟨A9, c9, e9, -, -, -, hg9⟩ := hFS.form
    simp only [Value.slice.injEq] at e9
    obtain ⟨rfl, -, rfl⟩ := e9
    obtain ⟨gs, rfl, hgsz, -, hso, hfz⟩ := hg9 (by omega)
    have hx9 := hso _ _ hls
    have hS3 := hS2.storeSoft (k := 1) (s := false) rfl hls
    rw [show St.set (St.length - 1) (ls.1, false) = lastHard St from (softMod_some hls).symm, hSl0] at hS3
    rw [hSl0] at hx9
    have hpos : (0 : Int) < ((many - k : Nat) : Int) := by omega
    obtain ⟨T, Ts, Tf, ⟨hT, hTs, hTf⟩, hos, hof, hO⟩ := roll_open (show Objs w0 _ (.lines (.slice Ag k cg) G :: .lines (.slice (some ⟨gs, 0, none⟩) (many - k) cs) (lastHard St) :: .lines (.slice (some ⟨gr, 0, none⟩) L.length c) L :: .lines vf (rollFresh k cols q) :: .box b7 54 (pv q) :: .box x 33 #[.int .i64 cols, .slice (some ⟨gr, 0, none⟩) L.length c] :: .box b5 106 #[.int .i64 top, .int .i64 bot] :: os) from hS3)
    have hSl : Ts.length = many - k := by rw [← lnP_length, hTs, lastHard_length]; exact hSl0
    have hFl : Tf.length = k := by rw [← lnP_length, hTf]; simp [rollFresh]
    have hTl : T.length = L.length := by rw [← lnP_length, hT]
    obtain ⟨Af, cf, ef, hcf, -, -, hgf⟩ := hO.headsForm (k := 2) rfl
    rw [hdP_length, hFl] at ef hcf hgf
    obtain ⟨gf, rfl, hgfz, -, -⟩ := hgf hk0
    subst ef
    clear hS3 hg9 hso hFS hls hgf
    have HLEFT := Lib.hid (rleft_pos (T := T) (Ts := Ts) (Tf := Tf) hn HMANY.out htb HKK.out hT (by rw [hTs, hSt]) hTf)
    obtain ⟨va, wa, hra, hSa, Aa, ca, hva⟩ := run_appH hO (k := 1) rfl (ad := ⟨gf, 0, none⟩) (m := k) (c := cf) (ds := hdP Tf) (by rw [hdP_length, hFl]) hcf (fun i y hy => by have := hO.headsSub (k := 2) (a := 0) (m := k) rfl (by rw [hdP_length]; omega) i y (by rw [List.drop_zero, List.take_of_length_le (by rw [hdP_length]; omega)]; exact hy); rwa [Nat.zero_mul] at this) hof (by rw [hdP_length, hdP_length]; omega) 30
    rw [hdP_length, hdP_length, hSl, hFl, Nat.sub_add_cancel hkm] at hva
    subst hva
    obtain ⟨All, hAll⟩ : ∃ All, All = Ts ++ Tf := ⟨_, rfl⟩
    have hAl : All.length = many := by rw [hAll, List.length_append, hSl, hFl]; omega
    rw [← hdP_append, ← hAll] at hSa
    have hPP : (piP Tf ++ piP Ts).Perm (piP All) := by rw [hAll, piP_append]; exact List.perm_append_comm
    have HSLI := Lib.hid (show ∀ y ∈ All, ∃ A n c, y.1 = .slice A n c from fun y hy => (hO.pileForm (k := 5) rfl) (y.1, y.2.1) (List.mem_append.2 (.inr (hPP.mem_iff.2 (List.mem_map.2 ⟨y, hy, rfl⟩)))))
    rw [← hAll] at HLEFT
    clear hAll
    have hSb := (show Objs w0 wa (.heads (.slice (some ⟨gr, 0, none⟩) L.length c) (hdP T) :: .heads (.slice Aa many ca) (hdP All) :: .heads (.slice (some ⟨gf, 0, none⟩) k cf) (hdP Tf) :: .box x 33 #[.int .i64 cols, .slice (some ⟨gr, 0, none⟩) L.length c] :: .box b5 106 #[.int .i64 top, .int .i64 bot] :: .pile (piP T ++ (piP Tf ++ piP Ts)) :: .lines (.slice Ag k cg) G :: .box b7 54 (pv q) :: os) from hSa).del 2
    have HRA := Lib.hid hra
    obtain ⟨A8, c8, e8, -, -, -, hg8⟩ := (show Objs w0 wa (.heads (.slice (some ⟨gr, 0, none⟩) L.length c) (hdP T) :: .heads (.slice Aa many ca) (hdP All) :: _) from hSb).headsForm (k := 1) rfl
    simp only [Value.slice.injEq] at e8
    obtain ⟨rfl, -, rfl⟩ := e8
    obtain ⟨ga, rfl, -, -, -⟩ := hg8 (by rw [hdP_length]; omega)
    have HPERM := Lib.hid (@rperm T Ts Tf top many All hPP)
    obtain ⟨P, hP⟩ : ∃ P, P = piP T ++ (piP Tf ++ piP Ts) := ⟨_, rfl⟩
    rw [← hP] at HPERM hSb
    obtain ⟨T1, hT1⟩ : ∃ T1, T1 = T.take top := ⟨_, rfl⟩
    obtain ⟨Rr, hRr⟩ : ∃ Rr, Rr = T.drop top := ⟨_, rfl⟩
    have hTT : hdP T = hdP T1 ++ (hdP (All.take 0) ++ hdP (Rr.drop 0)) := by rw [hT1, hRr]; simp [hdP]
    have HT1 := Lib.hid (show T1.length = top by rw [hT1]; simp; omega)
    have HRL := Lib.hid (show Rr.length = L.length - top by rw [hRr]; simp; omega)
    rw [← hT1, ← hRr] at HPERM
    rw [← hT1, ← hRr] at HLEFT
    rw [hTT] at hSb
    have SB := Lib.hid hSb
    have HAL := Lib.hid hAl
    clear hSa hSb hra hO hg8 hP hT1 hRr hTT hPP hS2 hT hTs hTf hos hof hSl hFl hTl hG hSt hcf hSl0 hGl0 hAl SZ
    go_wp2_with (at_builtin; refine wpList_app _ _ (wanted_none rfl) rfl rfl rfl HRA.out ?_)
    go_loopw [17] (fun vi wr => ∃ d : Nat, d ≤ many ∧ vi = .int .i64 d ∧ Objs w0 wr (.heads (.slice (some ⟨gr, 0, none⟩) L.length c) (hdP T1 ++ (hdP (All.take d) ++ hdP (Rr.drop d))) :: .heads (.slice (some ⟨ga, 0, none⟩) many ca) (hdP All) :: .box x 33 #[.int .i64 cols, .slice (some ⟨gr, 0, none⟩) L.length c] :: .box b5 106 #[.int .i64 top, .int .i64 bot] :: .pile P :: .lines (.slice Ag k cg) G :: .box b7 54 (pv q) :: os)) (fun vi _ => many - (intOf vi).toNat)
    case atStart => exact ⟨0, by omega, rfl, SB.out⟩
    case round =>
     obtain ⟨d, hdm, rfl, hS⟩ := hrel
     have S8 := Lib.hid hS
     clear hS SB
     by_cases hlt : d < many
     case neg =>
      have hX := S8.out
      have hd : d = many := by omega
      rw [hd, List.take_of_length_le (by rw [HAL.out]; exact Nat.le_refl _), ← hdP_append, ← hdP_append] at hX
      have hX2 := roll_shut HPERM.out hX
      obtain ⟨L1, hL1⟩ : ∃ L1, L1 = lnP (T1 ++ (All ++ Rr.drop many)) := ⟨_, rfl⟩
      have HLF := HLEFT
      rw [← hL1] at hX2 HLF
      have hL1l : L1.length = L.length := by rw [hL1, lnP_length]; simp only [List.length_append, List.length_drop]; have := HT1.out; have := HRL.out; have := HAL.out; omega
      have SX := Lib.hid hX2
      obtain ⟨hx5, hf5, hz5⟩ := (hX2.box (k := 2) rfl).facts
      clear hX hX2 hd hL1 S8
      by_cases ht0 : top = 0
      ·have HT0 := Lib.hid (show topHard top L1 = L1 by unfold topHard; rw [if_neg (by omega)])
       have htg : ¬ (0 : Int) < (top : Int) := by omega
       have SF := Lib.hid (fin_roll2 SX.out)
       clear ht0
       go_wp2_with fail
       go_ret
       exact ⟨Ag, k, cg, rfl, by rw [← HGONE.out, ← HLF.out, HT0.out]; exact SF.out⟩
      ·have htg : (0 : Int) < (top : Int) := by omega
       obtain ⟨l9, hlt1⟩ := get_of (show top - 1 < L1.length by omega)
       have HT0 := Lib.hid (show L1.set (top - 1) (l9.1, false) = topHard top L1 by unfold topHard; rw [if_pos (by omega), softMod_some hlt1])
       have HWT := Lib.hid (show IntKind.i64.wrap ((top : Int) - 1) = (top : Int) - 1 from IntWalk.i64_in _ (by omega))
       have htz : (0 : Int) ≤ (top : Int) - 1 := by omega
       have htz2 : (top : Int) - 1 < (L.length : Int) := by omega
       have htz3 : ¬ (top : Int) < 1 := by omega
       have htn : ((top : Int) - 1).toNat = top - 1 := by omega
       have SY := SX
       go_upto_region 27 with (fail)
       refine wp_region_stage (w0 := w0) (os := (.lines (.slice Ag k cg) G :: .box b7 54 (pv q) :: os)) (by kernel_rfl) (by kernel_rfl) (by kernel_rfl) [(0, 9, [], fun vs => .lines (.slice (some ⟨gr, 0, none⟩) L.length c) (L1.set (top - 1) (l9.1, false)))] [[], [], [], [1], [], [2], [], [], [], [0]] [.lines (.slice (some ⟨gr, 0, none⟩) L.length c) L1, .box x 33 #[.int .i64 ↑cols, .slice (some ⟨gr, 0, none⟩) L.length c], .box b5 106 #[.int .i64 ↑top, .int .i64 ↑bot]] (fun i u => match i with | 0 => u = pt x 0 | 1 => u = pt x 0 | 2 => u = pt x 1 | 3 => u = .slice (some ⟨gr, 0, none⟩) L.length c | 4 => u = pt b5 0 | 5 => u = .int .i64 ↑top | 6 => u = .int .i64 (↑top - 1) | 7 => u = pt gr ((top - 1) * 2) | 8 => u = pt gr ((top - 1) * 2 + 1) | 9 => True | _ => True) (fun vs => [.lines (.slice (some ⟨gr, 0, none⟩) L.length c) (L1.set (top - 1) (l9.1, false)), .box x 33 #[.int .i64 ↑cols, .slice (some ⟨gr, 0, none⟩) L.length c], .box b5 106 #[.int .i64 ↑top, .int .i64 ↑bot]]) (by kernel_rfl) (fun vs => by rfl) SY.out ?_ ?_
       ·apply sc
        ·intro a w' vs σ hS hl hs hk
         have f0 : a.tmps[0]?.getD undef = .pointer (some ⟨x, 0, none⟩) := sof hk
         exact rp (pt x 0) (by simp [execOp, Act.eval, f0, go_sem]) hl hs hS
        apply sc
        ·intro a w' vs σ hS hl hs hk
         have f124 : a.tmps[124]?.getD undef = .pointer (some ⟨x, 0, none⟩) := sf hk 0
         exact rp (pt x 0) (by simp [execOp, Act.eval, f124, go_sem]) hl hs hS
        apply sc
        ·intro a w' vs σ hS hl hs hk
         have f125 : a.tmps[125]?.getD undef = .pointer (some ⟨x, 0, none⟩) := sf hk 1
         exact rp (pt x 1) (by simp [execOp, Act.eval, f125, go_sem]) hl hs hS
        apply sc
        ·intro a w' vs σ hS hl hs hk
         have f126 : a.tmps[126]?.getD undef = .pointer (some ⟨x, 1, none⟩) := sf hk 2
         have hx := (hS.box (sg (hs 1 (by decide)))).cell
         exact rp (.slice (some ⟨gr, 0, none⟩) L.length c) (by simp [execOp, Act.eval, f126, go_sem, hx]) hl hs hS
        apply sc
        ·intro a w' vs σ hS hl hs hk
         have f5 : a.tmps[5]?.getD undef = .pointer (some ⟨b5, 0, none⟩) := sof hk
         exact rp (pt b5 0) (by simp [execOp, Act.eval, f5, go_sem]) hl hs hS
        apply sc
        ·intro a w' vs σ hS hl hs hk
         have f128 : a.tmps[128]?.getD undef = .pointer (some ⟨b5, 0, none⟩) := sf hk 4
         have hx := (hS.box (sg (hs 2 (by decide)))).cell
         exact rp (.int .i64 ↑top) (by simp [execOp, Act.eval, f128, go_sem, hx]) hl hs hS
        apply sc
        ·intro a w' vs σ hS hl hs hk
         have f129 : a.tmps[129]?.getD undef = .int .i64 ↑top := sf hk 5
         exact rp (.int .i64 (↑top - 1)) (by simp [execOp, Act.eval, f129, go_sem, HWT.out]) hl hs hS
        apply sc
        ·intro a w' vs σ hS hl hs hk
         have f127 : a.tmps[127]?.getD undef = .slice (some ⟨gr, 0, none⟩) L.length c := sf hk 3
         have f130 : a.tmps[130]?.getD undef = .int .i64 (↑top - 1) := sf hk 6
         exact rp (pt gr ((top - 1) * 2)) (by simp [execOp, Act.eval, f127, f130, go_sem, htz, htz2, htn, htz3]) hl hs hS
        apply sc
        ·intro a w' vs σ hS hl hs hk
         have f131 : a.tmps[131]?.getD undef = .pointer (some ⟨gr, (top - 1) * 2, none⟩) := sf hk 7
         exact rp (pt gr ((top - 1) * 2 + 1)) (by simp [execOp, Act.eval, f131, go_sem]) hl hs hS
        apply sc
        ·intro a w' vs σ hS hl hs hk
         have f132 : a.tmps[132]?.getD undef = .pointer (some ⟨gr, (top - 1) * 2 + 1, none⟩) := sf hk 8
         have h1 : σ[0]? = some (.lines (.slice (some ⟨gr, 0, none⟩) L.length c) L1) := hs 0 (by decide)
         obtain ⟨F9, bs9, hF9, -⟩ := hS.get (sg h1)
         obtain ⟨A9, c9, e9, -, -, -, hg9⟩ := hF9.form
         simp only [Value.slice.injEq] at e9
         obtain ⟨rfl, -, rfl⟩ := e9
         obtain ⟨g9, e9', hz, -, hso, hf⟩ := hg9 (by omega)
         cases e9'
         have hx := hso _ _ hlt1
         exact rstep_store (w2 := w'.setCell ⟨gr, (top - 1) * 2 + 1, none⟩ (.bool false)) (wanted_none rfl) rfl (by simp [execOp, Act.eval, f132, hx, hf, hz, go_sem]) (sp_set 0 (.lines (.slice (some ⟨gr, 0, none⟩) L.length c) (L1.set (top - 1) (l9.1, false))) (by kernel_rfl) (by simp) (by decide) hl hs (by rfl) (hS.storeSoft (sg h1) hlt1) trivial) trivial
        exact SSteps.nil
       ·intro vs w' hS hv
        have q0 : vs 0 = _ := hv 0 (by decide)
        have q1 : vs 1 = _ := hv 1 (by decide)
        have q2 : vs 2 = _ := hv 2 (by decide)
        have q3 : vs 3 = _ := hv 3 (by decide)
        have q4 : vs 4 = _ := hv 4 (by decide)
        have q5 : vs 5 = _ := hv 5 (by decide)
        have q6 : vs 6 = _ := hv 6 (by decide)
        have q7 : vs 7 = _ := hv 7 (by decide)
        have q8 : vs 8 = _ := hv 8 (by decide)
        have S2 := Lib.hid hS
        simp only [putL, Act.put, Nat.zero_add, Nat.reduceAdd, List.setIfInBounds_toArray, List.set_cons_succ, List.set_cons_zero, q0, q1, q2, q3, q4, q5, q6, q7, q8]
        clear hS hv q0 q1 q2 q3 q4 q5 q6 q7 q8
        have S9 := S2.out
        rw [HT0.out] at S9
        have SF := Lib.hid (fin_roll2 S9)
        clear S9 S2
        go_wp2_with fail
        go_ret
        exact ⟨Ag, k, cg, rfl, by rw [← HGONE.out, ← HLF.out]; exact SF.out⟩
     have hdA : d < All.length := by rw [HAL.out]; exact hlt
     have hdR : d < Rr.length := by rw [HRL.out]; omega
     obtain ⟨Ad, nd, cd, hsl⟩ := HSLI.out All[d] (List.getElem_mem hdA)
     have hdz : (0 : Int) ≤ (d : Int) := by omega
     have hdz2 : (d : Int) < (many : Int) := by omega
     have htz : (0 : Int) ≤ (top : Int) + (d : Int) := by omega
     have htz2 : (top : Int) + (d : Int) < (L.length : Int) := by omega
     have htn : ((top : Int) + (d : Int)).toNat = top + d := by omega
     have HWD := Lib.hid (show IntKind.i64.wrap ((top : Int) + (d : Int)) = (top : Int) + (d : Int) from IntWalk.i64_in _ (by omega))
     have HHL := Lib.hid (show (hdP T1 ++ (hdP (All.take d) ++ hdP (Rr.drop d))).length = top + (d + (Rr.length - d)) by simp only [List.length_append, hdP_length, List.length_drop, List.length_take, HT1.out]; omega)
     go_upto_region 25 with (fail)
     refine wp_region_stage (w0 := w0) (os := (.pile P :: .lines (.slice Ag k cg) G :: .box b7 54 (pv q) :: os)) (by kernel_rfl) (by kernel_rfl) (by kernel_rfl) [(0, 13, [], fun vs => .heads (.slice (some ⟨gr, 0, none⟩) L.length c) (List.set (hdP T1 ++ (hdP (All.take d) ++ hdP (Rr.drop d))) (top + d) (All[d].1, All[d].2.2)))] [[], [], [], [2], [], [3], [], [], [], [], [], [1], [], [0]] [.heads (.slice (some ⟨gr, 0, none⟩) L.length c) (hdP T1 ++ (hdP (All.take d) ++ hdP (Rr.drop d))), .heads (.slice (some ⟨ga, 0, none⟩) many ca) (hdP All), .box x 33 #[.int .i64 ↑cols, .slice (some ⟨gr, 0, none⟩) L.length c], .box b5 106 #[.int .i64 ↑top, .int .i64 ↑bot]] (fun i u => match i with | 0 => u = pt x 0 | 1 => u = pt x 0 | 2 => u = pt x 1 | 3 => u = .slice (some ⟨gr, 0, none⟩) L.length c | 4 => u = pt b5 0 | 5 => u = .int .i64 ↑top | 6 => u = .int .i64 ↑d | 7 => u = .int .i64 (↑top + ↑d) | 8 => u = .slice (some ⟨ga, 0, none⟩) many ca | 9 => u = .int .i64 ↑d | 10 => u = pt ga (d * 2) | 11 => u = .agg #[All[d].1, .bool All[d].2.2] | 12 => u = pt gr ((top + d) * 2) | 13 => True | _ => True) (fun vs => [.heads (.slice (some ⟨gr, 0, none⟩) L.length c) (List.set (hdP T1 ++ (hdP (All.take d) ++ hdP (Rr.drop d))) (top + d) (All[d].1, All[d].2.2)), .heads (.slice (some ⟨ga, 0, none⟩) many ca) (hdP All), .box x 33 #[.int .i64 ↑cols, .slice (some ⟨gr, 0, none⟩) L.length c], .box b5 106 #[.int .i64 ↑top, .int .i64 ↑bot]]) (by kernel_rfl) (fun vs => by rfl) S8.out ?_ ?_
     ·apply sc
      ·intro a w' vs σ hS hl hs hk
       have f0 : a.tmps[0]?.getD undef = .pointer (some ⟨x, 0, none⟩) := sof hk
       exact rp (pt x 0) (by simp [execOp, Act.eval, f0, go_sem]) hl hs hS
      apply sc
      ·intro a w' vs σ hS hl hs hk
       have f108 : a.tmps[108]?.getD undef = .pointer (some ⟨x, 0, none⟩) := sf hk 0
       exact rp (pt x 0) (by simp [execOp, Act.eval, f108, go_sem]) hl hs hS
      apply sc
      ·intro a w' vs σ hS hl hs hk
       have f109 : a.tmps[109]?.getD undef = .pointer (some ⟨x, 0, none⟩) := sf hk 1
       exact rp (pt x 1) (by simp [execOp, Act.eval, f109, go_sem]) hl hs hS
      apply sc
      ·intro a w' vs σ hS hl hs hk
       have f110 : a.tmps[110]?.getD undef = .pointer (some ⟨x, 1, none⟩) := sf hk 2
       have hx := (hS.box (sg (hs 2 (by decide)))).cell
       exact rp (.slice (some ⟨gr, 0, none⟩) L.length c) (by simp [execOp, Act.eval, f110, go_sem, hx]) hl hs hS
      apply sc
      ·intro a w' vs σ hS hl hs hk
       have f5 : a.tmps[5]?.getD undef = .pointer (some ⟨b5, 0, none⟩) := sof hk
       exact rp (pt b5 0) (by simp [execOp, Act.eval, f5, go_sem]) hl hs hS
      apply sc
      ·intro a w' vs σ hS hl hs hk
       have f112 : a.tmps[112]?.getD undef = .pointer (some ⟨b5, 0, none⟩) := sf hk 4
       have hx := (hS.box (sg (hs 3 (by decide)))).cell
       exact rp (.int .i64 ↑top) (by simp [execOp, Act.eval, f112, go_sem, hx]) hl hs hS
      apply sc
      ·intro a w' vs σ hS hl hs hk
       have f17 : a.tmps[17]?.getD undef = .int .i64 ↑d := sof hk
       exact rp (.int .i64 ↑d) (by simp [execOp, Act.eval, f17, go_sem]) hl hs hS
      apply sc
      ·intro a w' vs σ hS hl hs hk
       have f113 : a.tmps[113]?.getD undef = .int .i64 ↑top := sf hk 5
       have f114 : a.tmps[114]?.getD undef = .int .i64 ↑d := sf hk 6
       exact rp (.int .i64 (↑top + ↑d)) (by simp [execOp, Act.eval, f113, f114, go_sem, HWD.out]) hl hs hS
      apply sc
      ·intro a w' vs σ hS hl hs hk
       have f16 : a.tmps[16]?.getD undef = .slice (some ⟨ga, 0, none⟩) many ca := sof hk
       exact rp (.slice (some ⟨ga, 0, none⟩) many ca) (by simp [execOp, Act.eval, f16, go_sem]) hl hs hS
      apply sc
      ·intro a w' vs σ hS hl hs hk
       have f17 : a.tmps[17]?.getD undef = .int .i64 ↑d := sof hk
       exact rp (.int .i64 ↑d) (by simp [execOp, Act.eval, f17, go_sem]) hl hs hS
      apply sc
      ·intro a w' vs σ hS hl hs hk
       have f116 : a.tmps[116]?.getD undef = .slice (some ⟨ga, 0, none⟩) many ca := sf hk 8
       have f117 : a.tmps[117]?.getD undef = .int .i64 ↑d := sf hk 9
       exact rp (pt ga (d * 2)) (by simp [execOp, Act.eval, f116, f117, go_sem, hdz, hdz2]) hl hs hS
      apply sc
      ·intro a w' vs σ hS hl hs hk
       have f118 : a.tmps[118]?.getD undef = .pointer (some ⟨ga, d * 2, none⟩) := sf hk 10
       have h1 : σ[1]? = some (.heads (.slice (some ⟨ga, 0, none⟩) many ca) (hdP All)) := hs 1 (by decide)
       obtain ⟨A8, c8, e8, -, -, -, hg8⟩ := hS.headsForm (sg h1)
       simp only [Value.slice.injEq] at e8
       obtain ⟨rfl, -, rfl⟩ := e8
       obtain ⟨g8, e9, hz, hcs, hf⟩ := hg8 (by rw [hdP_length]; omega)
       cases e9
       obtain ⟨hx, hx'⟩ := hcs d (All[d].1, All[d].2.2) (by simp [hdP, hdA])
       exact ro_pure (v := .agg #[All[d].1, .bool All[d].2.2]) (wanted_none rfl) (by simp [execOp, Act.eval, f118, hx, hx', go_sem]) (sp_same (by kernel_rfl) hl hs hS rfl) trivial
      apply sc
      ·intro a w' vs σ hS hl hs hk
       have f111 : a.tmps[111]?.getD undef = .slice (some ⟨gr, 0, none⟩) L.length c := sf hk 3
       have f115 : a.tmps[115]?.getD undef = .int .i64 (↑top + ↑d) := sf hk 7
       exact rp (pt gr ((top + d) * 2)) (by simp [execOp, Act.eval, f111, f115, go_sem, htz, htz2, htn]) hl hs hS
      apply sc
      ·intro a w' vs σ hS hl hs hk
       have f120 : a.tmps[120]?.getD undef = .pointer (some ⟨gr, (top + d) * 2, none⟩) := sf hk 12
       have f119 : a.tmps[119]?.getD undef = .agg #[All[d].1, .bool All[d].2.2] := sf hk 11
       have h1 : σ[0]? = some (.heads (.slice (some ⟨gr, 0, none⟩) L.length c) (hdP T1 ++ (hdP (All.take d) ++ hdP (Rr.drop d)))) := hs 0 (by decide)
       obtain ⟨A8, c8, e8, -, -, -, hg8⟩ := hS.headsForm (sg h1)
       simp only [Value.slice.injEq] at e8
       obtain ⟨rfl, -, rfl⟩ := e8
       have hHl := HHL.out
       obtain ⟨g8, e9, hz, hcs, hf⟩ := hg8 (by omega)
       cases e9
       obtain ⟨x8, hx8⟩ := get_of (show top + d < (hdP T1 ++ (hdP (All.take d) ++ hdP (Rr.drop d))).length by omega)
       obtain ⟨hx, hx'⟩ := hcs (top + d) x8 hx8
       exact rstep_store (w2 := (w'.setCell ⟨gr, (top + d) * 2, none⟩ All[d].1).setCell ⟨gr, (top + d) * 2 + 1, none⟩ (.bool All[d].2.2)) (wanted_none rfl) rfl (by simp [execOp, Act.eval, f120, f119, hsl, hx, hx', hf, hz, go_sem]) (sp_set 0 (.heads (.slice (some ⟨gr, 0, none⟩) L.length c) (List.set (hdP T1 ++ (hdP (All.take d) ++ hdP (Rr.drop d))) (top + d) (All[d].1, All[d].2.2))) (by kernel_rfl) (by simp) (by decide) hl hs (by rfl) (hS.storeHead (sg h1)) trivial) trivial
      exact SSteps.nil
     ·intro vs w' hS hv
      have q0 : vs 0 = _ := hv 0 (by decide)
      have q1 : vs 1 = _ := hv 1 (by decide)
      have q2 : vs 2 = _ := hv 2 (by decide)
      have q3 : vs 3 = _ := hv 3 (by decide)
      have q4 : vs 4 = _ := hv 4 (by decide)
      have q5 : vs 5 = _ := hv 5 (by decide)
      have q6 : vs 6 = _ := hv 6 (by decide)
      have q7 : vs 7 = _ := hv 7 (by decide)
      have q8 : vs 8 = _ := hv 8 (by decide)
      have q9 : vs 9 = _ := hv 9 (by decide)
      have q10 : vs 10 = _ := hv 10 (by decide)
      have q11 : vs 11 = _ := hv 11 (by decide)
      have q12 : vs 12 = _ := hv 12 (by decide)
      have S2 := Lib.hid hS
      simp only [putL, Act.put, Nat.zero_add, Nat.reduceAdd, List.setIfInBounds_toArray, List.set_cons_succ, List.set_cons_zero, q0, q1, q2, q3, q4, q5, q6, q7, q8, q9, q10, q11, q12]
      clear hS hv q0 q1 q2 q3 q4 q5 q6 q7 q8 q9 q10 q11 q12
      have S9 := S2.out
      rw [hdP_fill All[d].1 All[d].2.1 All[d].2.2 HT1.out (by rw [List.length_take]; omega) hdR, show All.take d ++ [(All[d].1, All[d].2.1, All[d].2.2)] = All.take (d + 1) from (List.take_succ_eq_append_getElem hdA).symm] at S9
      have S10 := Lib.hid S9
      clear S9 S2
      go_wp2_with fail
      go_roundw
      case rel => exact ⟨d + 1, by omega, by go_num, S10.out⟩
      case measure => simp [intOf]; omega
 ·subst h2
  have hnl : ¬ n < (k : Int) := by omega
  have HPOSN := Lib.hid hn
  by_cases hcap : c - top = k
  ·have hmi := HMI.out
   go_wp2_with fail
   go_loopw [11, 12] (fun u11 vi wr => ∃ (d : Nat) (vf : Value), d ≤ k ∧ vf = u11 ∧ vi = .int .i64 d ∧ Objs w0 wr (.lines vf (rollFresh d cols q) :: .box b7 54 (pv q) :: .box x 33 #[.int .i64 cols, .slice (some ⟨gr, 0, none⟩) L.length c] :: .lines (.slice (some ⟨gr, 0, none⟩) L.length c) L :: .box b5 106 #[.int .i64 top, .int .i64 bot] :: os)) (fun _ vi _ => k - (intOf vi).toNat)
   case atStart => exact ⟨0, _, by omega, rfl, rfl, S1.out⟩
   case round =>
    obtain ⟨d, vf, hdk, rfl, rfl, hS⟩ := hrel
    have S2 := Lib.hid hS
    clear hS S1
    by_cases hlt : d < k
    ·have SZ := Lib.hid S2.out.pad.pad
     clear S2
     go_upto_region 11 with (fail)
     refine wp_region_stage (w0 := w0) (os := (.lines (.slice (some ⟨gr, 0, none⟩) L.length c) L :: .box b5 106 #[.int .i64 ↑top, .int .i64 ↑bot] :: os)) (by kernel_rfl) (by kernel_rfl) (by kernel_rfl) [(0, 6, [6], fun vs => .cells (lineV (vs 6)) (List.replicate cols (blank q))), (1, 7, [6, 7], fun vs => .box (blkOf (vs 7)) 39 #[lineV (vs 6), .bool false]), (2, 8, [8], fun vs => .lines (vs 8) (rollFresh (d + 1) cols q)), (0, 8, [], fun vs => .none), (2, 9, [9], fun vs => .lines (vs 9) (rollFresh (d + 1) cols q))] [[], [], [], [], [4], [3], [0], [1], [0, 1, 2], [2]] [.none, .none, .lines vf (rollFresh d cols q), .box b7 54 (pv q), .box x 33 #[.int .i64 ↑cols, .slice (some ⟨gr, 0, none⟩) L.length c]] (fun i u => match i with | 0 => u = (vf : Value) | 1 => u = pt x 0 | 2 => u = pt x 0 | 3 => u = pt x 0 | 4 => u = .int .i64 ↑cols | 5 => u = .agg (pv q) | 6 => ∃ y, u = .agg #[y, .bool false] | 7 => ∃ g, u = .slice (some ⟨g, 0, none⟩) 1 1 | 8 => ∃ A m c, u = .slice A m c | 9 => ∃ A m c, u = .slice A m c | _ => True) (fun vs => [.none, .box (blkOf (vs 7)) 39 #[lineV (vs 6), .bool false], .lines (vs 9) (rollFresh (d + 1) cols q), .box b7 54 (pv q), .box x 33 #[.int .i64 ↑cols, .slice (some ⟨gr, 0, none⟩) L.length c]]) (by kernel_rfl) (fun vs => by rfl) SZ.out ?_ ?_
     ·apply sc
      ·intro a w' vs σ hS hl hs hk
       have e11 : a.tmps.getD 11 undef = (vf : Value) := (sk_later hk 9 (by kernel_rfl) rfl rfl).trans rfl
       have f11 := gd e11
       exact rp vf (by simp [execOp, Act.eval, e11, f11, go_sem]) hl hs hS
      apply sc
      ·intro a w' vs σ hS hl hs hk
       have f0 : a.tmps[0]?.getD undef = .pointer (some ⟨x, 0, none⟩) := sof hk
       exact rp (pt x 0) (by simp [execOp, Act.eval, f0, go_sem]) hl hs hS
      apply sc
      ·intro a w' vs σ hS hl hs hk
       have f46 : a.tmps[46]?.getD undef = .pointer (some ⟨x, 0, none⟩) := sf hk 1
       exact rp (pt x 0) (by simp [execOp, Act.eval, f46, go_sem]) hl hs hS
      apply sc
      ·intro a w' vs σ hS hl hs hk
       have f47 : a.tmps[47]?.getD undef = .pointer (some ⟨x, 0, none⟩) := sf hk 2
       exact rp (pt x 0) (by simp [execOp, Act.eval, f47, go_sem]) hl hs hS
      apply sc
      ·intro a w' vs σ hS hl hs hk
       have f48 : a.tmps[48]?.getD undef = .pointer (some ⟨x, 0, none⟩) := sf hk 3
       have hx := (hS.box (sg (hs 4 (by decide)))).cell
       exact rp (.int .i64 ↑cols) (by simp [execOp, Act.eval, f48, go_sem, hx]) hl hs hS
      apply sc
      ·intro a w' vs σ hS hl hs hk
       have f7 : a.tmps[7]?.getD undef = .pointer (some ⟨b7, 0, none⟩) := sof hk
       have hx := (hS.box (sg (hs 3 (by decide)))).penAt
       exact rp (.agg (pv q)) (by simp [execOp, Act.eval, f7, go_sem, hx]) hl hs hS
      apply sc
      ·intro a w' vs σ hS hl hs hk
       have e49 : a.tmps.getD 49 undef = .int .i64 ↑cols := sv hk 4
       have e50 : a.tmps.getD 50 undef = .agg (pv q) := sv hk 5
       have h0 : σ[0]? = some .none := hs 0 (by decide)
       exact ro_call (f := 59) (wanted_none rfl) rfl (by simp only [List.map_toArray, List.map_cons, List.map_nil, Act.eval, e49, e50] <;> rfl) (fun _ _ => by kernel_rfl) ((r14Blanks_any cols (by omega) q w0 w' _ hS).mono fun e w2 ⟨y, h1, h2⟩ => ⟨_, h1, sp_set 0 (.cells y (List.replicate cols (blank q))) (by kernel_rfl) (by simp) (by decide) hl hs (by rfl) (h2.place (sg h0)) ⟨y, rfl⟩, trivial⟩)
      apply sc
      ·intro a w' vs σ hS hl hs hk
       have e51 : a.tmps.getD 51 undef = vs 6 := sk_val hk 6 (by kernel_rfl) rfl rfl
       have p51 : (fun u : Value => ∃ y, u = .agg #[y, .bool false]) (vs 6) := (hk.1 6 (by kernel_rfl)).1
       obtain ⟨y, hx⟩ := p51
       have e9 := e51.trans hx
       have f9 := gd e9
       have h1 : σ[1]? = some .none := hs 1 (by decide)
       exact rs_run (wanted_none rfl) (exec_bsl rfl (by simp [Act.eval, e9, f9]) (run_bsl y false w')) (sp_set 1 (.box w'.heap.size 39 #[y, .bool false]) (by kernel_rfl) (by simp) (by decide) hl hs (by show Ob.box (blkOf (.slice (some ⟨w'.heap.size, 0, none⟩) 1 1)) 39 #[lineV (vs 6), .bool false] = _; rw [hx]; rfl) (hS.alloc1.place (sg h1)) ⟨_, rfl⟩)
      apply sc
      ·intro a w' vs σ hS hl hs hk
       have e45 : a.tmps.getD 45 undef = (vf : Value) := sv hk 0
       have e52 : a.tmps.getD 52 undef = vs 7 := sk_val hk 7 (by kernel_rfl) rfl rfl
       have p52 : (fun u : Value => ∃ g, u = .slice (some ⟨g, 0, none⟩) 1 1) (vs 7) := (hk.1 7 (by kernel_rfl)).1
       have h2 : σ[2]? = some (.lines vf (rollFresh d cols q)) := hs 2 (by decide)
       have h0 : σ[0]? = some (.cells (lineV (vs 6)) (List.replicate cols (blank q))) := hs 0 (by decide)
       have h1 : σ[1]? = some (.box (blkOf (vs 7)) 39 #[lineV (vs 6), .bool false]) := hs 1 (by decide)
       obtain ⟨g8, hg8⟩ := p52
       rw [hg8, show blkOf (.slice (some ⟨g8, 0, none⟩) 1 1) = g8 from rfl] at h1
       obtain ⟨v9, w9, hr, hS2, A9, c9, hv9⟩ := run_appL hS (k := 2) (j := 0) (ad := ⟨g8, 0, none⟩) (c := 1) (s := false) (sg h2) (sg h0) (by decide) (by rw [(hS.box (sg h1)).cell]; rfl) (by rw [add_at, (hS.box (sg h1)).cell]; rfl) (by simp [rollFresh]; omega) 30
       rw [show rollFresh d cols q ++ [((List.replicate cols (blank q)), false)] = (rollFresh (d + 1) cols q) from (List.replicate_succ' ..).symm] at hS2
       exact rs_run (wanted_none rfl) (exec_app rfl (by simp only [Act.eval]; exact e45) (by simp only [Act.eval]; exact e52.trans hg8) hr) (sp_set2 2 0 (.lines v9 (rollFresh (d + 1) cols q)) .none (by decide) (by kernel_rfl) (by simp) (by simp) (by decide) (by decide) hl hs (by rfl) (by rfl) hS2 ⟨A9, _, c9, hv9⟩)
      apply sc
      ·intro a w' vs σ hS hl hs hk
       have e53 : a.tmps.getD 53 undef = vs 8 := sk_val hk 8 (by kernel_rfl) rfl rfl
       have p53 : (fun u : Value => ∃ A m c, u = .slice A m c) (vs 8) := (hk.1 8 (by kernel_rfl)).1
       obtain ⟨A9, n9, c9, q9⟩ := p53
       have e9 := e53.trans q9
       have f9 := gd e9
       have h2 : σ[2]? = some (.lines (vs 8) (rollFresh (d + 1) cols q)) := hs 2 (by decide)
       rw [q9] at h2
       have hSS : Objs w0 w' ((σ ++ (.lines (.slice (some ⟨gr, 0, none⟩) L.length c) L :: .box b5 106 #[.int .i64 ↑top, .int .i64 ↑bot] :: os)).set 2 (.lines (.slice A9 n9 c9) (rollFresh (d + 1) cols q))) := by rw [set_self (sg h2)]; exact hS
       exact rs_run (v' := .slice A9 n9 c9) (w' := w') (wanted_none rfl) (by simp [execOp, Act.eval, e9, f9, go_sem]) (sp_set 2 (.lines (.slice A9 n9 c9) (rollFresh (d + 1) cols q)) (by kernel_rfl) (by simp) (by decide) hl hs (by rfl) hSS ⟨A9, n9, c9, rfl⟩)
      exact SSteps.nil
     ·intro vs w' hS hv
      have q0 : vs 0 = _ := hv 0 (by decide)
      have q1 : vs 1 = _ := hv 1 (by decide)
      have q2 : vs 2 = _ := hv 2 (by decide)
      have q3 : vs 3 = _ := hv 3 (by decide)
      have q4 : vs 4 = _ := hv 4 (by decide)
      have q5 : vs 5 = _ := hv 5 (by decide)
      have S2 := Lib.hid hS
      simp only [putL, Act.put, Nat.zero_add, Nat.reduceAdd, List.setIfInBounds_toArray, List.set_cons_succ, List.set_cons_zero, q0, q1, q2, q3, q4, q5]
      clear hS hv q0 q1 q2 q3 q4 q5
      go_wp2_with fail
      go_roundw
      case rel => exact ⟨d + 1, vs 9, by omega, rfl, by go_num, (S2.out.del 0).del 0⟩
      case measure => simp [intOf]; omega
    obtain rfl : k = d := by omega
    have S3 := Lib.hid (ord_b S2.out)
    obtain ⟨hxx, hfx, hzx⟩ := (S3.out.box (k := 3) rfl).facts
    clear hx5 hf5 hz5
    obtain ⟨hx5, hf5, hz5⟩ := (S3.out.box (k := 4) rfl).facts
    clear S2
    go_wp2_with fail
    refine wp_region_below (by kernel_rfl) (by kernel_rfl) ?_
    repeat (go_big_quiet_step (fail))
    refine wpQuiet_nil ?_
    intro w2 hb2
    have SZ := Lib.hid (S3.out.bel hb2).pad.pad
    clear hxx hfx hzx hx5 hf5 hz5 S3 hb2
    simp only [HBI.out]
    have hkz : (0 : Int) ≤ (k : Int) := by omega
    have hkz2 : (k : Int) ≤ (k : Int) := by omega
    have hkz3 : k ≤ c - top := by omega
    have hkz4 : c - top = k := hcap
    go_wp2_with fail
    refine wp_region_stage (w0 := w0) (os := (.lines vf (rollFresh k cols q) :: .box b7 54 (pv q) :: .box x 33 #[.int .i64 ↑cols, .slice (some ⟨gr, 0, none⟩) L.length c] :: .box b5 106 #[.int .i64 ↑top, .int .i64 ↑bot] :: os)) (by kernel_rfl) (by kernel_rfl) (by kernel_rfl) [(0, 3, [3], fun vs => .lines (vs 3) ((L.drop top).take k)), (1, 7, [7], fun vs => .lines (vs 7) ([] : List Ln)), (0, 8, [8], fun vs => .lines (vs 8) ((L.drop top).take k)), (1, 9, [9], fun vs => .lines (vs 9) ([] : List Ln))] [[], [], [], [0, 2], [], [], [], [1, 2], [0], [1]] [.none, .none, .lines (.slice (some ⟨gr, 0, none⟩) L.length c) L] (fun i u => match i with | 0 => u = .slice (some ⟨gr, top * 2, none⟩) k (k) | 1 => u = .int .i64 ↑k | 2 => u = .slice (some ⟨gr, top * 2, none⟩) k (k) | 3 => ∃ A m c, u = .slice A m c | 4 => u = .slice (some ⟨gr, top * 2, none⟩) k (k) | 5 => u = .int .i64 ↑k | 6 => u = .slice (some ⟨gr, top * 2, none⟩) 0 (0) | 7 => ∃ A m c, u = .slice A m c | 8 => ∃ A m c, u = .slice A m c | 9 => ∃ A m c, u = .slice A m c | _ => True) (fun vs => [.lines (vs 8) ((L.drop top).take k), .lines (vs 9) ([] : List Ln), .lines (.slice (some ⟨gr, 0, none⟩) L.length c) L]) (by kernel_rfl) (fun vs => by rfl) SZ.out ?_ ?_
    ·apply sc
     ·intro a w' vs σ hS hl hs hk
      have f13 : a.tmps[13]?.getD undef = .slice (some ⟨gr, top * 2, none⟩) k (k) := sof hk
      exact rp (.slice (some ⟨gr, top * 2, none⟩) k (k)) (by simp [execOp, Act.eval, f13, go_sem]) hl hs hS
     apply sc
     ·intro a w' vs σ hS hl hs hk
      have f10 : a.tmps[10]?.getD undef = .int .i64 ↑k := sof hk
      exact rp (.int .i64 ↑k) (by simp [execOp, Act.eval, f10, go_sem]) hl hs hS
     apply sc
     ·intro a w' vs σ hS hl hs hk
      have f66 : a.tmps[66]?.getD undef = .slice (some ⟨gr, top * 2, none⟩) k (k) := sf hk 0
      have f67 : a.tmps[67]?.getD undef = .int .i64 ↑k := sf hk 1
      exact rp (.slice (some ⟨gr, top * 2, none⟩) k (k)) (by simp [execOp, Act.eval, f66, f67, go_sem, hkz, hkz2, hkz3, hkz4]) hl hs hS
     apply sc
     ·intro a w' vs σ hS hl hs hk
      have e68 : a.tmps.getD 68 undef = .slice (some ⟨gr, top * 2, none⟩) k (k) := sv hk 2
      have hn : σ[0]? = some .none := hs 0 (by decide)
      have h2 : σ[2]? = some (.lines (.slice (some ⟨gr, 0, none⟩) L.length c) L) := hs 2 (by decide)
      have hrl := (hS.linesRd' (sg h2)).2.2
      exact ro_call (f := 24) (wanted_none rfl) rfl (by simp only [List.map_toArray, List.map_cons, List.map_nil, Act.eval, e68] <;> rfl) (fun _ _ => by kernel_rfl) ((copies_at (L := ((L.drop top).take k)) (by simp; omega) (hrl.part0 (by omega) (by omega)) (by simp; omega) (fun l hl => HMILL.out l (List.mem_of_mem_drop (List.mem_of_mem_take hl)))).mono fun e w2 ⟨y, h1, h2⟩ => ⟨_, h1, sp_set 0 (.lines y ((L.drop top).take k)) (by kernel_rfl) (by simp) (by decide) hl hs (by rfl) ((hS.nest h2).place (sg hn)) (by obtain ⟨A, c, e, -⟩ := h2.linesRd (k := 0) rfl; exact ⟨A, _, c, e⟩), trivial⟩)
     apply sc
     ·intro a w' vs σ hS hl hs hk
      have f13 : a.tmps[13]?.getD undef = .slice (some ⟨gr, top * 2, none⟩) k (k) := sof hk
      exact rp (.slice (some ⟨gr, top * 2, none⟩) k (k)) (by simp [execOp, Act.eval, f13, go_sem]) hl hs hS
     apply sc
     ·intro a w' vs σ hS hl hs hk
      have f10 : a.tmps[10]?.getD undef = .int .i64 ↑k := sof hk
      exact rp (.int .i64 ↑k) (by simp [execOp, Act.eval, f10, go_sem]) hl hs hS
     apply sc
     ·intro a w' vs σ hS hl hs hk
      have f70 : a.tmps[70]?.getD undef = .slice (some ⟨gr, top * 2, none⟩) k (k) := sf hk 4
      have f71 : a.tmps[71]?.getD undef = .int .i64 ↑k := sf hk 5
      exact rp (.slice (some ⟨gr, top * 2, none⟩) 0 (0)) (by simp [execOp, Act.eval, f70, f71, go_sem, hkz, hkz2, hkz3, hkz4]) hl hs hS
     apply sc
     ·intro a w' vs σ hS hl hs hk
      have e72 : a.tmps.getD 72 undef = .slice (some ⟨gr, top * 2, none⟩) 0 (0) := sv hk 6
      have hn : σ[1]? = some .none := hs 1 (by decide)
      have h2 : σ[2]? = some (.lines (.slice (some ⟨gr, 0, none⟩) L.length c) L) := hs 2 (by decide)
      have hrl := (hS.linesRd' (sg h2)).2.2
      exact ro_call (f := 24) (wanted_none rfl) rfl (by simp only [List.map_toArray, List.map_cons, List.map_nil, Act.eval, e72] <;> rfl) (fun _ _ => by kernel_rfl) ((copies_at (L := ([] : List Ln)) rfl (RdL.empty _ _ _) (by simp) (fun l hl => by simp at hl)).mono fun e w2 ⟨y, h1, h2⟩ => ⟨_, h1, sp_set 1 (.lines y ([] : List Ln)) (by kernel_rfl) (by simp) (by decide) hl hs (by rfl) ((hS.nest h2).place (sg hn)) (by obtain ⟨A, c, e, -⟩ := h2.linesRd (k := 0) rfl; exact ⟨A, _, c, e⟩), trivial⟩)
     apply sc
     ·intro a w' vs σ hS hl hs hk
      have e69 : a.tmps.getD 69 undef = vs 3 := sk_val hk 3 (by kernel_rfl) rfl rfl
      have p69 : (fun u : Value => ∃ A m c, u = .slice A m c) (vs 3) := (hk.1 3 (by kernel_rfl)).1
      obtain ⟨A9, n9, c9, q9⟩ := p69
      have e9 := e69.trans q9
      have f9 := gd e9
      have h2 : σ[0]? = some (.lines (vs 3) ((L.drop top).take k)) := hs 0 (by decide)
      rw [q9] at h2
      have hSS : Objs w0 w' ((σ ++ (.lines vf (rollFresh k cols q) :: .box b7 54 (pv q) :: .box x 33 #[.int .i64 ↑cols, .slice (some ⟨gr, 0, none⟩) L.length c] :: .box b5 106 #[.int .i64 ↑top, .int .i64 ↑bot] :: os)).set 0 (.lines (.slice A9 n9 c9) ((L.drop top).take k))) := by rw [set_self (sg h2)]; exact hS
      exact rs_run (v' := .slice A9 n9 c9) (w' := w') (wanted_none rfl) (by simp [execOp, Act.eval, e9, f9, go_sem]) (sp_set 0 (.lines (.slice A9 n9 c9) ((L.drop top).take k)) (by kernel_rfl) (by simp) (by decide) hl hs (by rfl) hSS ⟨A9, n9, c9, rfl⟩)
     apply sc
     ·intro a w' vs σ hS hl hs hk
      have e73 : a.tmps.getD 73 undef = vs 7 := sk_val hk 7 (by kernel_rfl) rfl rfl
      have p73 : (fun u : Value => ∃ A m c, u = .slice A m c) (vs 7) := (hk.1 7 (by kernel_rfl)).1
      obtain ⟨A9, n9, c9, q9⟩ := p73
      have e9 := e73.trans q9
      have f9 := gd e9
      have h2 : σ[1]? = some (.lines (vs 7) ([] : List Ln)) := hs 1 (by decide)
      rw [q9] at h2
      have hSS : Objs w0 w' ((σ ++ (.lines vf (rollFresh k cols q) :: .box b7 54 (pv q) :: .box x 33 #[.int .i64 ↑cols, .slice (some ⟨gr, 0, none⟩) L.length c] :: .box b5 106 #[.int .i64 ↑top, .int .i64 ↑bot] :: os)).set 1 (.lines (.slice A9 n9 c9) ([] : List Ln))) := by rw [set_self (sg h2)]; exact hS
      exact rs_run (v' := .slice A9 n9 c9) (w' := w') (wanted_none rfl) (by simp [execOp, Act.eval, e9, f9, go_sem]) (sp_set 1 (.lines (.slice A9 n9 c9) ([] : List Ln)) (by kernel_rfl) (by simp) (by decide) hl hs (by rfl) hSS ⟨A9, n9, c9, rfl⟩)
     exact SSteps.nil
    ·intro vs w' hS hv
     have q0 : vs 0 = _ := hv 0 (by decide)
     have q1 : vs 1 = _ := hv 1 (by decide)
     have q2 : vs 2 = _ := hv 2 (by decide)
     have q4 : vs 4 = _ := hv 4 (by decide)
     have q5 : vs 5 = _ := hv 5 (by decide)
     have q6 : vs 6 = _ := hv 6 (by decide)
     obtain ⟨Ag, mg, cg, qg⟩ := (show ∃ A m c, vs 8 = .slice A m c from hv 8 (by decide))
     obtain ⟨As, ms, cs, qs⟩ := (show ∃ A m c, vs 9 = .slice A m c from hv 9 (by decide))
     rw [qg, qs] at hS
     obtain ⟨A1, n1, c1, q1⟩ := (show ∃ A m c, vs 3 = .slice A m c from hv 3 (by decide))
     obtain ⟨A2, n2, c2, q2⟩ := (show ∃ A m c, vs 7 = .slice A m c from hv 7 (by decide))
     have S2 := Lib.hid hS
     simp only [putL, Act.put, Nat.zero_add, Nat.reduceAdd, List.setIfInBounds_toArray, List.set_cons_succ, List.set_cons_zero, q0, q1, q2, q4, q5, q6]
     clear hS hv q0 q1 q2 q4 q5 q6
     simp only [qg, qs, q1, q2]
     have hGl0 : ((L.drop top).take k).length = k := by simp; omega
     have emg : k = mg := ((show Objs w0 w' (.lines (.slice Ag mg cg) ((L.drop top).take k) :: _) from S2.out).linesRd' (k := 0) rfl |>.1.trans hGl0).symm
     have ems : ms = 0 := (show Objs w0 w' (_ :: .lines (.slice As ms cs) ([] : List Ln) :: _) from S2.out).linesRd' (k := 1) rfl |>.1
     subst emg ems
     obtain ⟨G, hG⟩ : ∃ G, G = (L.drop top).take k := ⟨_, rfl⟩
     have hS2 := (show Objs w0 w' (.lines (.slice Ag k cg) G :: .lines (.slice As 0 cs) [] :: .lines (.slice (some ⟨gr, 0, none⟩) L.length c) L :: .lines vf (rollFresh k cols q) :: .box b7 54 (pv q) :: .box x 33 #[.int .i64 cols, .slice (some ⟨gr, 0, none⟩) L.length c] :: .box b5 106 #[.int .i64 top, .int .i64 bot] :: os) from by rw [hG]; exact S2.out)
     have HGONE := Lib.hid (show G = rollGone top bot n L by rw [hG]; exact rgone_pos hn HMANY.out HKK.out hkm)
     obtain ⟨T, Ts, Tf, ⟨hT, hTs, hTf⟩, hos, hof, hO⟩ := roll_open hS2
     have hSl : Ts.length = 0 := by rw [← lnP_length, hTs]; rfl
     have hFl : Tf.length = k := by rw [← lnP_length, hTf]; simp [rollFresh]
     have hTl : T.length = L.length := by rw [← lnP_length, hT]
     obtain ⟨Af, cf, ef, hcf, -, -, hgf⟩ := hO.headsForm (k := 2) rfl
     rw [hdP_length, hFl] at ef hcf hgf
     obtain ⟨gf, rfl, hgfz, -, -⟩ := hgf hk0
     subst ef
     clear hgf
     have HLEFT := Lib.hid (rleft_pos (T := T) (Ts := Ts) (Tf := Tf) hn HMANY.out htb HKK.out hT (by rw [hTs, Nat.sub_self]; simp [lastHard, softMod]) hTf)
     obtain ⟨va, wa, hra, hSa, Aa, ca, hva⟩ := run_appH hO (k := 1) rfl (ad := ⟨gf, 0, none⟩) (m := k) (c := cf) (ds := hdP Tf) (by rw [hdP_length, hFl]) hcf (fun i y hy => by have := hO.headsSub (k := 2) (a := 0) (m := k) rfl (by rw [hdP_length]; omega) i y (by rw [List.drop_zero, List.take_of_length_le (by rw [hdP_length]; omega)]; exact hy); rwa [Nat.zero_mul] at this) hof (by rw [hdP_length, hdP_length]; omega) 30
     rw [hdP_length, hdP_length, hSl, hFl, Nat.zero_add] at hva
     subst hva
     obtain ⟨All, hAll⟩ : ∃ All, All = Ts ++ Tf := ⟨_, rfl⟩
     have hAl : All.length = k := by rw [hAll, List.length_append, hSl, hFl]; omega
     rw [← hdP_append, ← hAll] at hSa
     have hPP : (piP Tf ++ piP Ts).Perm (piP All) := by rw [hAll, piP_append]; exact List.perm_append_comm
     have HSLI := Lib.hid (show ∀ y ∈ All, ∃ A n c, y.1 = .slice A n c from fun y hy => (hO.pileForm (k := 5) rfl) (y.1, y.2.1) (List.mem_append.2 (.inr (hPP.mem_iff.2 (List.mem_map.2 ⟨y, hy, rfl⟩)))))
     rw [← hAll] at HLEFT
     clear hAll
     have hSb := (show Objs w0 wa (.heads (.slice (some ⟨gr, 0, none⟩) L.length c) (hdP T) :: .heads (.slice Aa k ca) (hdP All) :: .heads (.slice (some ⟨gf, 0, none⟩) k cf) (hdP Tf) :: .box x 33 #[.int .i64 cols, .slice (some ⟨gr, 0, none⟩) L.length c] :: .box b5 106 #[.int .i64 top, .int .i64 bot] :: .pile (piP T ++ (piP Tf ++ piP Ts)) :: .lines (.slice Ag k cg) G :: .box b7 54 (pv q) :: os) from hSa).del 2
     have HRA := Lib.hid hra
     obtain ⟨A8, c8, e8, -, -, -, hg8⟩ := (show Objs w0 wa (.heads (.slice (some ⟨gr, 0, none⟩) L.length c) (hdP T) :: .heads (.slice Aa k ca) (hdP All) :: _) from hSb).headsForm (k := 1) rfl
     simp only [Value.slice.injEq] at e8
     obtain ⟨rfl, -, rfl⟩ := e8
     obtain ⟨ga, rfl, -, -, -⟩ := hg8 (by rw [hdP_length]; omega)
     have HPERM := Lib.hid (@rperm T Ts Tf top k All hPP)
     obtain ⟨P, hP⟩ : ∃ P, P = piP T ++ (piP Tf ++ piP Ts) := ⟨_, rfl⟩
     rw [← hP] at HPERM hSb
     obtain ⟨T1, hT1⟩ : ∃ T1, T1 = T.take top := ⟨_, rfl⟩
     obtain ⟨Rr, hRr⟩ : ∃ Rr, Rr = T.drop top := ⟨_, rfl⟩
     have hTT : hdP T = hdP T1 ++ (hdP (All.take 0) ++ hdP (Rr.drop 0)) := by rw [hT1, hRr]; simp [hdP]
     have HT1 := Lib.hid (show T1.length = top by rw [hT1]; simp; omega)
     have HRL := Lib.hid (show Rr.length = L.length - top by rw [hRr]; simp; omega)
     rw [← hT1, ← hRr] at HPERM
     rw [← hT1, ← hRr] at HLEFT
     rw [hTT] at hSb
     have SB := Lib.hid hSb
     have HAL := Lib.hid hAl
     clear hSa hSb hra hO hg8 hP hT1 hRr hTT hPP hS2 hT hTs hTf hos hof hSl hFl hTl hG hcf hGl0 hAl SZ
     go_wp2_with (at_builtin; refine wpList_app _ _ (wanted_none rfl) rfl rfl rfl HRA.out ?_)
     go_loopw [17] (fun vi wr => ∃ d : Nat, d ≤ k ∧ vi = .int .i64 d ∧ Objs w0 wr (.heads (.slice (some ⟨gr, 0, none⟩) L.length c) (hdP T1 ++ (hdP (All.take d) ++ hdP (Rr.drop d))) :: .heads (.slice (some ⟨ga, 0, none⟩) k ca) (hdP All) :: .box x 33 #[.int .i64 cols, .slice (some ⟨gr, 0, none⟩) L.length c] :: .box b5 106 #[.int .i64 top, .int .i64 bot] :: .pile P :: .lines (.slice Ag k cg) G :: .box b7 54 (pv q) :: os)) (fun vi _ => k - (intOf vi).toNat)
     case atStart => exact ⟨0, by omega, rfl, SB.out⟩
     case round =>
      obtain ⟨d, hdm, rfl, hS⟩ := hrel
      have S8 := Lib.hid hS
      clear hS SB
      by_cases hlt : d < k
      case neg =>
       have hX := S8.out
       have hd : d = k := by omega
       rw [hd, List.take_of_length_le (by rw [HAL.out]; exact Nat.le_refl _), ← hdP_append, ← hdP_append] at hX
       have hX2 := roll_shut HPERM.out hX
       obtain ⟨L1, hL1⟩ : ∃ L1, L1 = lnP (T1 ++ (All ++ Rr.drop k)) := ⟨_, rfl⟩
       have HLF := HLEFT
       rw [← hL1] at hX2 HLF
       have hL1l : L1.length = L.length := by rw [hL1, lnP_length]; simp only [List.length_append, List.length_drop]; have := HT1.out; have := HRL.out; have := HAL.out; omega
       have SX := Lib.hid hX2
       obtain ⟨hx5, hf5, hz5⟩ := (hX2.box (k := 2) rfl).facts
       clear hX hX2 hd hL1 S8
       by_cases ht0 : top = 0
       ·have HT0 := Lib.hid (show topHard top L1 = L1 by unfold topHard; rw [if_neg (by omega)])
        have htg : ¬ (0 : Int) < (top : Int) := by omega
        have SF := Lib.hid (fin_roll2 SX.out)
        clear ht0
        go_wp2_with fail
        go_ret
        exact ⟨Ag, k, cg, rfl, by rw [← HGONE.out, ← HLF.out, HT0.out]; exact SF.out⟩
       ·have htg : (0 : Int) < (top : Int) := by omega
        obtain ⟨l9, hlt1⟩ := get_of (show top - 1 < L1.length by omega)
        have HT0 := Lib.hid (show L1.set (top - 1) (l9.1, false) = topHard top L1 by unfold topHard; rw [if_pos (by omega), softMod_some hlt1])
        have HWT := Lib.hid (show IntKind.i64.wrap ((top : Int) - 1) = (top : Int) - 1 from IntWalk.i64_in _ (by omega))
        have htz : (0 : Int) ≤ (top : Int) - 1 := by omega
        have htz2 : (top : Int) - 1 < (L.length : Int) := by omega
        have htz3 : ¬ (top : Int) < 1 := by omega
        have htn : ((top : Int) - 1).toNat = top - 1 := by omega
        have SY := SX
        go_upto_region 27 with (fail)
        refine wp_region_stage (w0 := w0) (os := (.lines (.slice Ag k cg) G :: .box b7 54 (pv q) :: os)) (by kernel_rfl) (by kernel_rfl) (by kernel_rfl) [(0, 9, [], fun vs => .lines (.slice (some ⟨gr, 0, none⟩) L.length c) (L1.set (top - 1) (l9.1, false)))] [[], [], [], [1], [], [2], [], [], [], [0]] [.lines (.slice (some ⟨gr, 0, none⟩) L.length c) L1, .box x 33 #[.int .i64 ↑cols, .slice (some ⟨gr, 0, none⟩) L.length c], .box b5 106 #[.int .i64 ↑top, .int .i64 ↑bot]] (fun i u => match i with | 0 => u = pt x 0 | 1 => u = pt x 0 | 2 => u = pt x 1 | 3 => u = .slice (some ⟨gr, 0, none⟩) L.length c | 4 => u = pt b5 0 | 5 => u = .int .i64 ↑top | 6 => u = .int .i64 (↑top - 1) | 7 => u = pt gr ((top - 1) * 2) | 8 => u = pt gr ((top - 1) * 2 + 1) | 9 => True | _ => True) (fun vs => [.lines (.slice (some ⟨gr, 0, none⟩) L.length c) (L1.set (top - 1) (l9.1, false)), .box x 33 #[.int .i64 ↑cols, .slice (some ⟨gr, 0, none⟩) L.length c], .box b5 106 #[.int .i64 ↑top, .int .i64 ↑bot]]) (by kernel_rfl) (fun vs => by rfl) SY.out ?_ ?_
        ·apply sc
         ·intro a w' vs σ hS hl hs hk
          have f0 : a.tmps[0]?.getD undef = .pointer (some ⟨x, 0, none⟩) := sof hk
          exact rp (pt x 0) (by simp [execOp, Act.eval, f0, go_sem]) hl hs hS
         apply sc
         ·intro a w' vs σ hS hl hs hk
          have f124 : a.tmps[124]?.getD undef = .pointer (some ⟨x, 0, none⟩) := sf hk 0
          exact rp (pt x 0) (by simp [execOp, Act.eval, f124, go_sem]) hl hs hS
         apply sc
         ·intro a w' vs σ hS hl hs hk
          have f125 : a.tmps[125]?.getD undef = .pointer (some ⟨x, 0, none⟩) := sf hk 1
          exact rp (pt x 1) (by simp [execOp, Act.eval, f125, go_sem]) hl hs hS
         apply sc
         ·intro a w' vs σ hS hl hs hk
          have f126 : a.tmps[126]?.getD undef = .pointer (some ⟨x, 1, none⟩) := sf hk 2
          have hx := (hS.box (sg (hs 1 (by decide)))).cell
          exact rp (.slice (some ⟨gr, 0, none⟩) L.length c) (by simp [execOp, Act.eval, f126, go_sem, hx]) hl hs hS
         apply sc
         ·intro a w' vs σ hS hl hs hk
          have f5 : a.tmps[5]?.getD undef = .pointer (some ⟨b5, 0, none⟩) := sof hk
          exact rp (pt b5 0) (by simp [execOp, Act.eval, f5, go_sem]) hl hs hS
         apply sc
         ·intro a w' vs σ hS hl hs hk
          have f128 : a.tmps[128]?.getD undef = .pointer (some ⟨b5, 0, none⟩) := sf hk 4
          have hx := (hS.box (sg (hs 2 (by decide)))).cell
          exact rp (.int .i64 ↑top) (by simp [execOp, Act.eval, f128, go_sem, hx]) hl hs hS
         apply sc
         ·intro a w' vs σ hS hl hs hk
          have f129 : a.tmps[129]?.getD undef = .int .i64 ↑top := sf hk 5
          exact rp (.int .i64 (↑top - 1)) (by simp [execOp, Act.eval, f129, go_sem, HWT.out]) hl hs hS
         apply sc
         ·intro a w' vs σ hS hl hs hk
          have f127 : a.tmps[127]?.getD undef = .slice (some ⟨gr, 0, none⟩) L.length c := sf hk 3
          have f130 : a.tmps[130]?.getD undef = .int .i64 (↑top - 1) := sf hk 6
          exact rp (pt gr ((top - 1) * 2)) (by simp [execOp, Act.eval, f127, f130, go_sem, htz, htz2, htn, htz3]) hl hs hS
         apply sc
         ·intro a w' vs σ hS hl hs hk
          have f131 : a.tmps[131]?.getD undef = .pointer (some ⟨gr, (top - 1) * 2, none⟩) := sf hk 7
          exact rp (pt gr ((top - 1) * 2 + 1)) (by simp [execOp, Act.eval, f131, go_sem]) hl hs hS
         apply sc
         ·intro a w' vs σ hS hl hs hk
          have f132 : a.tmps[132]?.getD undef = .pointer (some ⟨gr, (top - 1) * 2 + 1, none⟩) := sf hk 8
          have h1 : σ[0]? = some (.lines (.slice (some ⟨gr, 0, none⟩) L.length c) L1) := hs 0 (by decide)
          obtain ⟨F9, bs9, hF9, -⟩ := hS.get (sg h1)
          obtain ⟨A9, c9, e9, -, -, -, hg9⟩ := hF9.form
          simp only [Value.slice.injEq] at e9
          obtain ⟨rfl, -, rfl⟩ := e9
          obtain ⟨g9, e9', hz, -, hso, hf⟩ := hg9 (by omega)
          cases e9'
          have hx := hso _ _ hlt1
          exact rstep_store (w2 := w'.setCell ⟨gr, (top - 1) * 2 + 1, none⟩ (.bool false)) (wanted_none rfl) rfl (by simp [execOp, Act.eval, f132, hx, hf, hz, go_sem]) (sp_set 0 (.lines (.slice (some ⟨gr, 0, none⟩) L.length c) (L1.set (top - 1) (l9.1, false))) (by kernel_rfl) (by simp) (by decide) hl hs (by rfl) (hS.storeSoft (sg h1) hlt1) trivial) trivial
         exact SSteps.nil
        ·intro vs w' hS hv
         have q0 : vs 0 = _ := hv 0 (by decide)
         have q1 : vs 1 = _ := hv 1 (by decide)
         have q2 : vs 2 = _ := hv 2 (by decide)
         have q3 : vs 3 = _ := hv 3 (by decide)
         have q4 : vs 4 = _ := hv 4 (by decide)
         have q5 : vs 5 = _ := hv 5 (by decide)
         have q6 : vs 6 = _ := hv 6 (by decide)
         have q7 : vs 7 = _ := hv 7 (by decide)
         have q8 : vs 8 = _ := hv 8 (by decide)
         have S2 := Lib.hid hS
         simp only [putL, Act.put, Nat.zero_add, Nat.reduceAdd, List.setIfInBounds_toArray, List.set_cons_succ, List.set_cons_zero, q0, q1, q2, q3, q4, q5, q6, q7, q8]
         clear hS hv q0 q1 q2 q3 q4 q5 q6 q7 q8
         have S9 := S2.out
         rw [HT0.out] at S9
         have SF := Lib.hid (fin_roll2 S9)
         clear S9 S2
         go_wp2_with fail
         go_ret
         exact ⟨Ag, k, cg, rfl, by rw [← HGONE.out, ← HLF.out]; exact SF.out⟩
      have hdA : d < All.length := by rw [HAL.out]; exact hlt
      have hdR : d < Rr.length := by rw [HRL.out]; omega
      obtain ⟨Ad, nd, cd, hsl⟩ := HSLI.out All[d] (List.getElem_mem hdA)
      have hdz : (0 : Int) ≤ (d : Int) := by omega
      have hdz2 : (d : Int) < (k : Int) := by omega
      have htz : (0 : Int) ≤ (top : Int) + (d : Int) := by omega
      have htz2 : (top : Int) + (d : Int) < (L.length : Int) := by omega
      have htn : ((top : Int) + (d : Int)).toNat = top + d := by omega
      have HWD := Lib.hid (show IntKind.i64.wrap ((top : Int) + (d : Int)) = (top : Int) + (d : Int) from IntWalk.i64_in _ (by omega))
      have HHL := Lib.hid (show (hdP T1 ++ (hdP (All.take d) ++ hdP (Rr.drop d))).length = top + (d + (Rr.length - d)) by simp only [List.length_append, hdP_length, List.length_drop, List.length_take, HT1.out]; omega)
      go_upto_region 25 with (fail)
      refine wp_region_stage (w0 := w0) (os := (.pile P :: .lines (.slice Ag k cg) G :: .box b7 54 (pv q) :: os)) (by kernel_rfl) (by kernel_rfl) (by kernel_rfl) [(0, 13, [], fun vs => .heads (.slice (some ⟨gr, 0, none⟩) L.length c) (List.set (hdP T1 ++ (hdP (All.take d) ++ hdP (Rr.drop d))) (top + d) (All[d].1, All[d].2.2)))] [[], [], [], [2], [], [3], [], [], [], [], [], [1], [], [0]] [.heads (.slice (some ⟨gr, 0, none⟩) L.length c) (hdP T1 ++ (hdP (All.take d) ++ hdP (Rr.drop d))), .heads (.slice (some ⟨ga, 0, none⟩) k ca) (hdP All), .box x 33 #[.int .i64 ↑cols, .slice (some ⟨gr, 0, none⟩) L.length c], .box b5 106 #[.int .i64 ↑top, .int .i64 ↑bot]] (fun i u => match i with | 0 => u = pt x 0 | 1 => u = pt x 0 | 2 => u = pt x 1 | 3 => u = .slice (some ⟨gr, 0, none⟩) L.length c | 4 => u = pt b5 0 | 5 => u = .int .i64 ↑top | 6 => u = .int .i64 ↑d | 7 => u = .int .i64 (↑top + ↑d) | 8 => u = .slice (some ⟨ga, 0, none⟩) k ca | 9 => u = .int .i64 ↑d | 10 => u = pt ga (d * 2) | 11 => u = .agg #[All[d].1, .bool All[d].2.2] | 12 => u = pt gr ((top + d) * 2) | 13 => True | _ => True) (fun vs => [.heads (.slice (some ⟨gr, 0, none⟩) L.length c) (List.set (hdP T1 ++ (hdP (All.take d) ++ hdP (Rr.drop d))) (top + d) (All[d].1, All[d].2.2)), .heads (.slice (some ⟨ga, 0, none⟩) k ca) (hdP All), .box x 33 #[.int .i64 ↑cols, .slice (some ⟨gr, 0, none⟩) L.length c], .box b5 106 #[.int .i64 ↑top, .int .i64 ↑bot]]) (by kernel_rfl) (fun vs => by rfl) S8.out ?_ ?_
      ·apply sc
       ·intro a w' vs σ hS hl hs hk
        have f0 : a.tmps[0]?.getD undef = .pointer (some ⟨x, 0, none⟩) := sof hk
        exact rp (pt x 0) (by simp [execOp, Act.eval, f0, go_sem]) hl hs hS
       apply sc
       ·intro a w' vs σ hS hl hs hk
        have f108 : a.tmps[108]?.getD undef = .pointer (some ⟨x, 0, none⟩) := sf hk 0
        exact rp (pt x 0) (by simp [execOp, Act.eval, f108, go_sem]) hl hs hS
       apply sc
       ·intro a w' vs σ hS hl hs hk
        have f109 : a.tmps[109]?.getD undef = .pointer (some ⟨x, 0, none⟩) := sf hk 1
        exact rp (pt x 1) (by simp [execOp, Act.eval, f109, go_sem]) hl hs hS
       apply sc
       ·intro a w' vs σ hS hl hs hk
        have f110 : a.tmps[110]?.getD undef = .pointer (some ⟨x, 1, none⟩) := sf hk 2
        have hx := (hS.box (sg (hs 2 (by decide)))).cell
        exact rp (.slice (some ⟨gr, 0, none⟩) L.length c) (by simp [execOp, Act.eval, f110, go_sem, hx]) hl hs hS
       apply sc
       ·intro a w' vs σ hS hl hs hk
        have f5 : a.tmps[5]?.getD undef = .pointer (some ⟨b5, 0, none⟩) := sof hk
        exact rp (pt b5 0) (by simp [execOp, Act.eval, f5, go_sem]) hl hs hS
       apply sc
       ·intro a w' vs σ hS hl hs hk
        have f112 : a.tmps[112]?.getD undef = .pointer (some ⟨b5, 0, none⟩) := sf hk 4
        have hx := (hS.box (sg (hs 3 (by decide)))).cell
        exact rp (.int .i64 ↑top) (by simp [execOp, Act.eval, f112, go_sem, hx]) hl hs hS
       apply sc
       ·intro a w' vs σ hS hl hs hk
        have f17 : a.tmps[17]?.getD undef = .int .i64 ↑d := sof hk
        exact rp (.int .i64 ↑d) (by simp [execOp, Act.eval, f17, go_sem]) hl hs hS
       apply sc
       ·intro a w' vs σ hS hl hs hk
        have f113 : a.tmps[113]?.getD undef = .int .i64 ↑top := sf hk 5
        have f114 : a.tmps[114]?.getD undef = .int .i64 ↑d := sf hk 6
        exact rp (.int .i64 (↑top + ↑d)) (by simp [execOp, Act.eval, f113, f114, go_sem, HWD.out]) hl hs hS
       apply sc
       ·intro a w' vs σ hS hl hs hk
        have f16 : a.tmps[16]?.getD undef = .slice (some ⟨ga, 0, none⟩) k ca := sof hk
        exact rp (.slice (some ⟨ga, 0, none⟩) k ca) (by simp [execOp, Act.eval, f16, go_sem]) hl hs hS
       apply sc
       ·intro a w' vs σ hS hl hs hk
        have f17 : a.tmps[17]?.getD undef = .int .i64 ↑d := sof hk
        exact rp (.int .i64 ↑d) (by simp [execOp, Act.eval, f17, go_sem]) hl hs hS
       apply sc
       ·intro a w' vs σ hS hl hs hk
        have f116 : a.tmps[116]?.getD undef = .slice (some ⟨ga, 0, none⟩) k ca := sf hk 8
        have f117 : a.tmps[117]?.getD undef = .int .i64 ↑d := sf hk 9
        exact rp (pt ga (d * 2)) (by simp [execOp, Act.eval, f116, f117, go_sem, hdz, hdz2]) hl hs hS
       apply sc
       ·intro a w' vs σ hS hl hs hk
        have f118 : a.tmps[118]?.getD undef = .pointer (some ⟨ga, d * 2, none⟩) := sf hk 10
        have h1 : σ[1]? = some (.heads (.slice (some ⟨ga, 0, none⟩) k ca) (hdP All)) := hs 1 (by decide)
        obtain ⟨A8, c8, e8, -, -, -, hg8⟩ := hS.headsForm (sg h1)
        simp only [Value.slice.injEq] at e8
        obtain ⟨rfl, -, rfl⟩ := e8
        obtain ⟨g8, e9, hz, hcs, hf⟩ := hg8 (by rw [hdP_length]; omega)
        cases e9
        obtain ⟨hx, hx'⟩ := hcs d (All[d].1, All[d].2.2) (by simp [hdP, hdA])
        exact ro_pure (v := .agg #[All[d].1, .bool All[d].2.2]) (wanted_none rfl) (by simp [execOp, Act.eval, f118, hx, hx', go_sem]) (sp_same (by kernel_rfl) hl hs hS rfl) trivial
       apply sc
       ·intro a w' vs σ hS hl hs hk
        have f111 : a.tmps[111]?.getD undef = .slice (some ⟨gr, 0, none⟩) L.length c := sf hk 3
        have f115 : a.tmps[115]?.getD undef = .int .i64 (↑top + ↑d) := sf hk 7
        exact rp (pt gr ((top + d) * 2)) (by simp [execOp, Act.eval, f111, f115, go_sem, htz, htz2, htn]) hl hs hS
       apply sc
       ·intro a w' vs σ hS hl hs hk
        have f120 : a.tmps[120]?.getD undef = .pointer (some ⟨gr, (top + d) * 2, none⟩) := sf hk 12
        have f119 : a.tmps[119]?.getD undef = .agg #[All[d].1, .bool All[d].2.2] := sf hk 11
        have h1 : σ[0]? = some (.heads (.slice (some ⟨gr, 0, none⟩) L.length c) (hdP T1 ++ (hdP (All.take d) ++ hdP (Rr.drop d)))) := hs 0 (by decide)
        obtain ⟨A8, c8, e8, -, -, -, hg8⟩ := hS.headsForm (sg h1)
        simp only [Value.slice.injEq] at e8
        obtain ⟨rfl, -, rfl⟩ := e8
        have hHl := HHL.out
        obtain ⟨g8, e9, hz, hcs, hf⟩ := hg8 (by omega)
        cases e9
        obtain ⟨x8, hx8⟩ := get_of (show top + d < (hdP T1 ++ (hdP (All.take d) ++ hdP (Rr.drop d))).length by omega)
        obtain ⟨hx, hx'⟩ := hcs (top + d) x8 hx8
        exact rstep_store (w2 := (w'.setCell ⟨gr, (top + d) * 2, none⟩ All[d].1).setCell ⟨gr, (top + d) * 2 + 1, none⟩ (.bool All[d].2.2)) (wanted_none rfl) rfl (by simp [execOp, Act.eval, f120, f119, hsl, hx, hx', hf, hz, go_sem]) (sp_set 0 (.heads (.slice (some ⟨gr, 0, none⟩) L.length c) (List.set (hdP T1 ++ (hdP (All.take d) ++ hdP (Rr.drop d))) (top + d) (All[d].1, All[d].2.2))) (by kernel_rfl) (by simp) (by decide) hl hs (by rfl) (hS.storeHead (sg h1)) trivial) trivial
       exact SSteps.nil
      ·intro vs w' hS hv
       have q0 : vs 0 = _ := hv 0 (by decide)
       have q1 : vs 1 = _ := hv 1 (by decide)
       have q2 : vs 2 = _ := hv 2 (by decide)
       have q3 : vs 3 = _ := hv 3 (by decide)
       have q4 : vs 4 = _ := hv 4 (by decide)
       have q5 : vs 5 = _ := hv 5 (by decide)
       have q6 : vs 6 = _ := hv 6 (by decide)
       have q7 : vs 7 = _ := hv 7 (by decide)
       have q8 : vs 8 = _ := hv 8 (by decide)
       have q9 : vs 9 = _ := hv 9 (by decide)
       have q10 : vs 10 = _ := hv 10 (by decide)
       have q11 : vs 11 = _ := hv 11 (by decide)
       have q12 : vs 12 = _ := hv 12 (by decide)
       have S2 := Lib.hid hS
       simp only [putL, Act.put, Nat.zero_add, Nat.reduceAdd, List.setIfInBounds_toArray, List.set_cons_succ, List.set_cons_zero, q0, q1, q2, q3, q4, q5, q6, q7, q8, q9, q10, q11, q12]
       clear hS hv q0 q1 q2 q3 q4 q5 q6 q7 q8 q9 q10 q11 q12
       have S9 := S2.out
       rw [hdP_fill All[d].1 All[d].2.1 All[d].2.2 HT1.out (by rw [List.length_take]; omega) hdR, show All.take d ++ [(All[d].1, All[d].2.1, All[d].2.2)] = All.take (d + 1) from (List.take_succ_eq_append_getElem hdA).symm] at S9
       have S10 := Lib.hid S9
       clear S9 S2
       go_wp2_with fail
       go_roundw
       case rel => exact ⟨d + 1, by omega, by go_num, S10.out⟩
       case measure => simp [intOf]; omega
  ·have hmi := HMI.out
   go_wp2_with fail
   go_loopw [11, 12] (fun u11 vi wr => ∃ (d : Nat) (vf : Value), d ≤ k ∧ vf = u11 ∧ vi = .int .i64 d ∧ Objs w0 wr (.lines vf (rollFresh d cols q) :: .box b7 54 (pv q) :: .box x 33 #[.int .i64 cols, .slice (some ⟨gr, 0, none⟩) L.length c] :: .lines (.slice (some ⟨gr, 0, none⟩) L.length c) L :: .box b5 106 #[.int .i64 top, .int .i64 bot] :: os)) (fun _ vi _ => k - (intOf vi).toNat)
   case atStart => exact ⟨0, _, by omega, rfl, rfl, S1.out⟩
   case round =>
    obtain ⟨d, vf, hdk, rfl, rfl, hS⟩ := hrel
    have S2 := Lib.hid hS
    clear hS S1
    by_cases hlt : d < k
    ·have SZ := Lib.hid S2.out.pad.pad
     clear S2
     go_upto_region 11 with (fail)
     refine wp_region_stage (w0 := w0) (os := (.lines (.slice (some ⟨gr, 0, none⟩) L.length c) L :: .box b5 106 #[.int .i64 ↑top, .int .i64 ↑bot] :: os)) (by kernel_rfl) (by kernel_rfl) (by kernel_rfl) [(0, 6, [6], fun vs => .cells (lineV (vs 6)) (List.replicate cols (blank q))), (1, 7, [6, 7], fun vs => .box (blkOf (vs 7)) 39 #[lineV (vs 6), .bool false]), (2, 8, [8], fun vs => .lines (vs 8) (rollFresh (d + 1) cols q)), (0, 8, [], fun vs => .none), (2, 9, [9], fun vs => .lines (vs 9) (rollFresh (d + 1) cols q))] [[], [], [], [], [4], [3], [0], [1], [0, 1, 2], [2]] [.none, .none, .lines vf (rollFresh d cols q), .box b7 54 (pv q), .box x 33 #[.int .i64 ↑cols, .slice (some ⟨gr, 0, none⟩) L.length c]] (fun i u => match i with | 0 => u = (vf : Value) | 1 => u = pt x 0 | 2 => u = pt x 0 | 3 => u = pt x 0 | 4 => u = .int .i64 ↑cols | 5 => u = .agg (pv q) | 6 => ∃ y, u = .agg #[y, .bool false] | 7 => ∃ g, u = .slice (some ⟨g, 0, none⟩) 1 1 | 8 => ∃ A m c, u = .slice A m c | 9 => ∃ A m c, u = .slice A m c | _ => True) (fun vs => [.none, .box (blkOf (vs 7)) 39 #[lineV (vs 6), .bool false], .lines (vs 9) (rollFresh (d + 1) cols q), .box b7 54 (pv q), .box x 33 #[.int .i64 ↑cols, .slice (some ⟨gr, 0, none⟩) L.length c]]) (by kernel_rfl) (fun vs => by rfl) SZ.out ?_ ?_
     ·apply sc
      ·intro a w' vs σ hS hl hs hk
       have e11 : a.tmps.getD 11 undef = (vf : Value) := (sk_later hk 9 (by kernel_rfl) rfl rfl).trans rfl
       have f11 := gd e11
       exact rp vf (by simp [execOp, Act.eval, e11, f11, go_sem]) hl hs hS
      apply sc
      ·intro a w' vs σ hS hl hs hk
       have f0 : a.tmps[0]?.getD undef = .pointer (some ⟨x, 0, none⟩) := sof hk
       exact rp (pt x 0) (by simp [execOp, Act.eval, f0, go_sem]) hl hs hS
      apply sc
      ·intro a w' vs σ hS hl hs hk
       have f46 : a.tmps[46]?.getD undef = .pointer (some ⟨x, 0, none⟩) := sf hk 1
       exact rp (pt x 0) (by simp [execOp, Act.eval, f46, go_sem]) hl hs hS
      apply sc
      ·intro a w' vs σ hS hl hs hk
       have f47 : a.tmps[47]?.getD undef = .pointer (some ⟨x, 0, none⟩) := sf hk 2
       exact rp (pt x 0) (by simp [execOp, Act.eval, f47, go_sem]) hl hs hS
      apply sc
      ·intro a w' vs σ hS hl hs hk
       have f48 : a.tmps[48]?.getD undef = .pointer (some ⟨x, 0, none⟩) := sf hk 3
       have hx := (hS.box (sg (hs 4 (by decide)))).cell
       exact rp (.int .i64 ↑cols) (by simp [execOp, Act.eval, f48, go_sem, hx]) hl hs hS
      apply sc
      ·intro a w' vs σ hS hl hs hk
       have f7 : a.tmps[7]?.getD undef = .pointer (some ⟨b7, 0, none⟩) := sof hk
       have hx := (hS.box (sg (hs 3 (by decide)))).penAt
       exact rp (.agg (pv q)) (by simp [execOp, Act.eval, f7, go_sem, hx]) hl hs hS
      apply sc
      ·intro a w' vs σ hS hl hs hk
       have e49 : a.tmps.getD 49 undef = .int .i64 ↑cols := sv hk 4
       have e50 : a.tmps.getD 50 undef = .agg (pv q) := sv hk 5
       have h0 : σ[0]? = some .none := hs 0 (by decide)
       exact ro_call (f := 59) (wanted_none rfl) rfl (by simp only [List.map_toArray, List.map_cons, List.map_nil, Act.eval, e49, e50] <;> rfl) (fun _ _ => by kernel_rfl) ((r14Blanks_any cols (by omega) q w0 w' _ hS).mono fun e w2 ⟨y, h1, h2⟩ => ⟨_, h1, sp_set 0 (.cells y (List.replicate cols (blank q))) (by kernel_rfl) (by simp) (by decide) hl hs (by rfl) (h2.place (sg h0)) ⟨y, rfl⟩, trivial⟩)
      apply sc
      ·intro a w' vs σ hS hl hs hk
       have e51 : a.tmps.getD 51 undef = vs 6 := sk_val hk 6 (by kernel_rfl) rfl rfl
       have p51 : (fun u : Value => ∃ y, u = .agg #[y, .bool false]) (vs 6) := (hk.1 6 (by kernel_rfl)).1
       obtain ⟨y, hx⟩ := p51
       have e9 := e51.trans hx
       have f9 := gd e9
       have h1 : σ[1]? = some .none := hs 1 (by decide)
       exact rs_run (wanted_none rfl) (exec_bsl rfl (by simp [Act.eval, e9, f9]) (run_bsl y false w')) (sp_set 1 (.box w'.heap.size 39 #[y, .bool false]) (by kernel_rfl) (by simp) (by decide) hl hs (by show Ob.box (blkOf (.slice (some ⟨w'.heap.size, 0, none⟩) 1 1)) 39 #[lineV (vs 6), .bool false] = _; rw [hx]; rfl) (hS.alloc1.place (sg h1)) ⟨_, rfl⟩)
      apply sc
      ·intro a w' vs σ hS hl hs hk
       have e45 : a.tmps.getD 45 undef = (vf : Value) := sv hk 0
       have e52 : a.tmps.getD 52 undef = vs 7 := sk_val hk 7 (by kernel_rfl) rfl rfl
       have p52 : (fun u : Value => ∃ g, u = .slice (some ⟨g, 0, none⟩) 1 1) (vs 7) := (hk.1 7 (by kernel_rfl)).1
       have h2 : σ[2]? = some (.lines vf (rollFresh d cols q)) := hs 2 (by decide)
       have h0 : σ[0]? = some (.cells (lineV (vs 6)) (List.replicate cols (blank q))) := hs 0 (by decide)
       have h1 : σ[1]? = some (.box (blkOf (vs 7)) 39 #[lineV (vs 6), .bool false]) := hs 1 (by decide)
       obtain ⟨g8, hg8⟩ := p52
       rw [hg8, show blkOf (.slice (some ⟨g8, 0, none⟩) 1 1) = g8 from rfl] at h1
       obtain ⟨v9, w9, hr, hS2, A9, c9, hv9⟩ := run_appL hS (k := 2) (j := 0) (ad := ⟨g8, 0, none⟩) (c := 1) (s := false) (sg h2) (sg h0) (by decide) (by rw [(hS.box (sg h1)).cell]; rfl) (by rw [add_at, (hS.box (sg h1)).cell]; rfl) (by simp [rollFresh]; omega) 30
       rw [show rollFresh d cols q ++ [((List.replicate cols (blank q)), false)] = (rollFresh (d + 1) cols q) from (List.replicate_succ' ..).symm] at hS2
       exact rs_run (wanted_none rfl) (exec_app rfl (by simp only [Act.eval]; exact e45) (by simp only [Act.eval]; exact e52.trans hg8) hr) (sp_set2 2 0 (.lines v9 (rollFresh (d + 1) cols q)) .none (by decide) (by kernel_rfl) (by simp) (by simp) (by decide) (by decide) hl hs (by rfl) (by rfl) hS2 ⟨A9, _, c9, hv9⟩)
      apply sc
      ·intro a w' vs σ hS hl hs hk
       have e53 : a.tmps.getD 53 undef = vs 8 := sk_val hk 8 (by kernel_rfl) rfl rfl
       have p53 : (fun u : Value => ∃ A m c, u = .slice A m c) (vs 8) := (hk.1 8 (by kernel_rfl)).1
       obtain ⟨A9, n9, c9, q9⟩ := p53
       have e9 := e53.trans q9
       have f9 := gd e9
       have h2 : σ[2]? = some (.lines (vs 8) (rollFresh (d + 1) cols q)) := hs 2 (by decide)
       rw [q9] at h2
       have hSS : Objs w0 w' ((σ ++ (.lines (.slice (some ⟨gr, 0, none⟩) L.length c) L :: .box b5 106 #[.int .i64 ↑top, .int .i64 ↑bot] :: os)).set 2 (.lines (.slice A9 n9 c9) (rollFresh (d + 1) cols q))) := by rw [set_self (sg h2)]; exact hS
       exact rs_run (v' := .slice A9 n9 c9) (w' := w') (wanted_none rfl) (by simp [execOp, Act.eval, e9, f9, go_sem]) (sp_set 2 (.lines (.slice A9 n9 c9) (rollFresh (d + 1) cols q)) (by kernel_rfl) (by simp) (by decide) hl hs (by rfl) hSS ⟨A9, n9, c9, rfl⟩)
      exact SSteps.nil
     ·intro vs w' hS hv
      have q0 : vs 0 = _ := hv 0 (by decide)
      have q1 : vs 1 = _ := hv 1 (by decide)
      have q2 : vs 2 = _ := hv 2 (by decide)
      have q3 : vs 3 = _ := hv 3 (by decide)
      have q4 : vs 4 = _ := hv 4 (by decide)
      have q5 : vs 5 = _ := hv 5 (by decide)
      have S2 := Lib.hid hS
      simp only [putL, Act.put, Nat.zero_add, Nat.reduceAdd, List.setIfInBounds_toArray, List.set_cons_succ, List.set_cons_zero, q0, q1, q2, q3, q4, q5]
      clear hS hv q0 q1 q2 q3 q4 q5
      go_wp2_with fail
      go_roundw
      case rel => exact ⟨d + 1, vs 9, by omega, rfl, by go_num, (S2.out.del 0).del 0⟩
      case measure => simp [intOf]; omega
    obtain rfl : k = d := by omega
    have S3 := Lib.hid (ord_b S2.out)
    obtain ⟨hxx, hfx, hzx⟩ := (S3.out.box (k := 3) rfl).facts
    clear hx5 hf5 hz5
    obtain ⟨hx5, hf5, hz5⟩ := (S3.out.box (k := 4) rfl).facts
    clear S2
    go_wp2_with fail
    refine wp_region_below (by kernel_rfl) (by kernel_rfl) ?_
    repeat (go_big_quiet_step (fail))
    refine wpQuiet_nil ?_
    intro w2 hb2
    have SZ := Lib.hid (S3.out.bel hb2).pad.pad
    clear hxx hfx hzx hx5 hf5 hz5 S3 hb2
    simp only [HBI.out]
    have hkz : (0 : Int) ≤ (k : Int) := by omega
    have hkz2 : (k : Int) ≤ (k : Int) := by omega
    have hkz3 : k ≤ c - top := by omega
    have hkz4 : ¬ c - top = k := by omega
    go_wp2_with fail
    refine wp_region_stage (w0 := w0) (os := (.lines vf (rollFresh k cols q) :: .box b7 54 (pv q) :: .box x 33 #[.int .i64 ↑cols, .slice (some ⟨gr, 0, none⟩) L.length c] :: .box b5 106 #[.int .i64 ↑top, .int .i64 ↑bot] :: os)) (by kernel_rfl) (by kernel_rfl) (by kernel_rfl) [(0, 3, [3], fun vs => .lines (vs 3) ((L.drop top).take k)), (1, 7, [7], fun vs => .lines (vs 7) ([] : List Ln)), (0, 8, [8], fun vs => .lines (vs 8) ((L.drop top).take k)), (1, 9, [9], fun vs => .lines (vs 9) ([] : List Ln))] [[], [], [], [0, 2], [], [], [], [1, 2], [0], [1]] [.none, .none, .lines (.slice (some ⟨gr, 0, none⟩) L.length c) L] (fun i u => match i with | 0 => u = .slice (some ⟨gr, top * 2, none⟩) k (c - top) | 1 => u = .int .i64 ↑k | 2 => u = .slice (some ⟨gr, top * 2, none⟩) k (c - top) | 3 => ∃ A m c, u = .slice A m c | 4 => u = .slice (some ⟨gr, top * 2, none⟩) k (c - top) | 5 => u = .int .i64 ↑k | 6 => u = .slice (some ⟨gr, top * 2 + k * 2, none⟩) 0 (c - top - k) | 7 => ∃ A m c, u = .slice A m c | 8 => ∃ A m c, u = .slice A m c | 9 => ∃ A m c, u = .slice A m c | _ => True) (fun vs => [.lines (vs 8) ((L.drop top).take k), .lines (vs 9) ([] : List Ln), .lines (.slice (some ⟨gr, 0, none⟩) L.length c) L]) (by kernel_rfl) (fun vs => by rfl) SZ.out ?_ ?_
    ·apply sc
     ·intro a w' vs σ hS hl hs hk
      have f13 : a.tmps[13]?.getD undef = .slice (some ⟨gr, top * 2, none⟩) k (c - top) := sof hk
      exact rp (.slice (some ⟨gr, top * 2, none⟩) k (c - top)) (by simp [execOp, Act.eval, f13, go_sem]) hl hs hS
     apply sc
     ·intro a w' vs σ hS hl hs hk
      have f10 : a.tmps[10]?.getD undef = .int .i64 ↑k := sof hk
      exact rp (.int .i64 ↑k) (by simp [execOp, Act.eval, f10, go_sem]) hl hs hS
     apply sc
     ·intro a w' vs σ hS hl hs hk
      have f66 : a.tmps[66]?.getD undef = .slice (some ⟨gr, top * 2, none⟩) k (c - top) := sf hk 0
      have f67 : a.tmps[67]?.getD undef = .int .i64 ↑k := sf hk 1
      exact rp (.slice (some ⟨gr, top * 2, none⟩) k (c - top)) (by simp [execOp, Act.eval, f66, f67, go_sem, hkz, hkz2, hkz3, hkz4]) hl hs hS
     apply sc
     ·intro a w' vs σ hS hl hs hk
      have e68 : a.tmps.getD 68 undef = .slice (some ⟨gr, top * 2, none⟩) k (c - top) := sv hk 2
      have hn : σ[0]? = some .none := hs 0 (by decide)
      have h2 : σ[2]? = some (.lines (.slice (some ⟨gr, 0, none⟩) L.length c) L) := hs 2 (by decide)
      have hrl := (hS.linesRd' (sg h2)).2.2
      exact ro_call (f := 24) (wanted_none rfl) rfl (by simp only [List.map_toArray, List.map_cons, List.map_nil, Act.eval, e68] <;> rfl) (fun _ _ => by kernel_rfl) ((copies_at (L := ((L.drop top).take k)) (by simp; omega) (hrl.part0 (by omega) (by omega)) (by simp; omega) (fun l hl => HMILL.out l (List.mem_of_mem_drop (List.mem_of_mem_take hl)))).mono fun e w2 ⟨y, h1, h2⟩ => ⟨_, h1, sp_set 0 (.lines y ((L.drop top).take k)) (by kernel_rfl) (by simp) (by decide) hl hs (by rfl) ((hS.nest h2).place (sg hn)) (by obtain ⟨A, c, e, -⟩ := h2.linesRd (k := 0) rfl; exact ⟨A, _, c, e⟩), trivial⟩)
     apply sc
     ·intro a w' vs σ hS hl hs hk
      have f13 : a.tmps[13]?.getD undef = .slice (some ⟨gr, top * 2, none⟩) k (c - top) := sof hk
      exact rp (.slice (some ⟨gr, top * 2, none⟩) k (c - top)) (by simp [execOp, Act.eval, f13, go_sem]) hl hs hS
     apply sc
     ·intro a w' vs σ hS hl hs hk
      have f10 : a.tmps[10]?.getD undef = .int .i64 ↑k := sof hk
      exact rp (.int .i64 ↑k) (by simp [execOp, Act.eval, f10, go_sem]) hl hs hS
     apply sc
     ·intro a w' vs σ hS hl hs hk
      have f70 : a.tmps[70]?.getD undef = .slice (some ⟨gr, top * 2, none⟩) k (c - top) := sf hk 4
      have f71 : a.tmps[71]?.getD undef = .int .i64 ↑k := sf hk 5
      exact rp (.slice (some ⟨gr, top * 2 + k * 2, none⟩) 0 (c - top - k)) (by simp [execOp, Act.eval, f70, f71, go_sem, hkz, hkz2, hkz3, hkz4]) hl hs hS
     apply sc
     ·intro a w' vs σ hS hl hs hk
      have e72 : a.tmps.getD 72 undef = .slice (some ⟨gr, top * 2 + k * 2, none⟩) 0 (c - top - k) := sv hk 6
      have hn : σ[1]? = some .none := hs 1 (by decide)
      have h2 : σ[2]? = some (.lines (.slice (some ⟨gr, 0, none⟩) L.length c) L) := hs 2 (by decide)
      have hrl := (hS.linesRd' (sg h2)).2.2
      exact ro_call (f := 24) (wanted_none rfl) rfl (by simp only [List.map_toArray, List.map_cons, List.map_nil, Act.eval, e72] <;> rfl) (fun _ _ => by kernel_rfl) ((copies_at (L := ([] : List Ln)) rfl (RdL.empty _ _ _) (by simp) (fun l hl => by simp at hl)).mono fun e w2 ⟨y, h1, h2⟩ => ⟨_, h1, sp_set 1 (.lines y ([] : List Ln)) (by kernel_rfl) (by simp) (by decide) hl hs (by rfl) ((hS.nest h2).place (sg hn)) (by obtain ⟨A, c, e, -⟩ := h2.linesRd (k := 0) rfl; exact ⟨A, _, c, e⟩), trivial⟩)
     apply sc
     ·intro a w' vs σ hS hl hs hk
      have e69 : a.tmps.getD 69 undef = vs 3 := sk_val hk 3 (by kernel_rfl) rfl rfl
      have p69 : (fun u : Value => ∃ A m c, u = .slice A m c) (vs 3) := (hk.1 3 (by kernel_rfl)).1
      obtain ⟨A9, n9, c9, q9⟩ := p69
      have e9 := e69.trans q9
      have f9 := gd e9
      have h2 : σ[0]? = some (.lines (vs 3) ((L.drop top).take k)) := hs 0 (by decide)
      rw [q9] at h2
      have hSS : Objs w0 w' ((σ ++ (.lines vf (rollFresh k cols q) :: .box b7 54 (pv q) :: .box x 33 #[.int .i64 ↑cols, .slice (some ⟨gr, 0, none⟩) L.length c] :: .box b5 106 #[.int .i64 ↑top, .int .i64 ↑bot] :: os)).set 0 (.lines (.slice A9 n9 c9) ((L.drop top).take k))) := by rw [set_self (sg h2)]; exact hS
      exact rs_run (v' := .slice A9 n9 c9) (w' := w') (wanted_none rfl) (by simp [execOp, Act.eval, e9, f9, go_sem]) (sp_set 0 (.lines (.slice A9 n9 c9) ((L.drop top).take k)) (by kernel_rfl) (by simp) (by decide) hl hs (by rfl) hSS ⟨A9, n9, c9, rfl⟩)
     apply sc
     ·intro a w' vs σ hS hl hs hk
      have e73 : a.tmps.getD 73 undef = vs 7 := sk_val hk 7 (by kernel_rfl) rfl rfl
      have p73 : (fun u : Value => ∃ A m c, u = .slice A m c) (vs 7) := (hk.1 7 (by kernel_rfl)).1
      obtain ⟨A9, n9, c9, q9⟩ := p73
      have e9 := e73.trans q9
      have f9 := gd e9
      have h2 : σ[1]? = some (.lines (vs 7) ([] : List Ln)) := hs 1 (by decide)
      rw [q9] at h2
      have hSS : Objs w0 w' ((σ ++ (.lines vf (rollFresh k cols q) :: .box b7 54 (pv q) :: .box x 33 #[.int .i64 ↑cols, .slice (some ⟨gr, 0, none⟩) L.length c] :: .box b5 106 #[.int .i64 ↑top, .int .i64 ↑bot] :: os)).set 1 (.lines (.slice A9 n9 c9) ([] : List Ln))) := by rw [set_self (sg h2)]; exact hS
      exact rs_run (v' := .slice A9 n9 c9) (w' := w') (wanted_none rfl) (by simp [execOp, Act.eval, e9, f9, go_sem]) (sp_set 1 (.lines (.slice A9 n9 c9) ([] : List Ln)) (by kernel_rfl) (by simp) (by decide) hl hs (by rfl) hSS ⟨A9, n9, c9, rfl⟩)
     exact SSteps.nil
    ·intro vs w' hS hv
     have q0 : vs 0 = _ := hv 0 (by decide)
     have q1 : vs 1 = _ := hv 1 (by decide)
     have q2 : vs 2 = _ := hv 2 (by decide)
     have q4 : vs 4 = _ := hv 4 (by decide)
     have q5 : vs 5 = _ := hv 5 (by decide)
     have q6 : vs 6 = _ := hv 6 (by decide)
     obtain ⟨Ag, mg, cg, qg⟩ := (show ∃ A m c, vs 8 = .slice A m c from hv 8 (by decide))
     obtain ⟨As, ms, cs, qs⟩ := (show ∃ A m c, vs 9 = .slice A m c from hv 9 (by decide))
     rw [qg, qs] at hS
     obtain ⟨A1, n1, c1, q1⟩ := (show ∃ A m c, vs 3 = .slice A m c from hv 3 (by decide))
     obtain ⟨A2, n2, c2, q2⟩ := (show ∃ A m c, vs 7 = .slice A m c from hv 7 (by decide))
     have S2 := Lib.hid hS
     simp only [putL, Act.put, Nat.zero_add, Nat.reduceAdd, List.setIfInBounds_toArray, List.set_cons_succ, List.set_cons_zero, q0, q1, q2, q4, q5, q6]
     clear hS hv q0 q1 q2 q4 q5 q6
     simp only [qg, qs, q1, q2]
     have hGl0 : ((L.drop top).take k).length = k := by simp; omega
     have emg : k = mg := ((show Objs w0 w' (.lines (.slice Ag mg cg) ((L.drop top).take k) :: _) from S2.out).linesRd' (k := 0) rfl |>.1.trans hGl0).symm
     have ems : ms = 0 := (show Objs w0 w' (_ :: .lines (.slice As ms cs) ([] : List Ln) :: _) from S2.out).linesRd' (k := 1) rfl |>.1
     subst emg ems
     obtain ⟨G, hG⟩ : ∃ G, G = (L.drop top).take k := ⟨_, rfl⟩
     have hS2 := (show Objs w0 w' (.lines (.slice Ag k cg) G :: .lines (.slice As 0 cs) [] :: .lines (.slice (some ⟨gr, 0, none⟩) L.length c) L :: .lines vf (rollFresh k cols q) :: .box b7 54 (pv q) :: .box x 33 #[.int .i64 cols, .slice (some ⟨gr, 0, none⟩) L.length c] :: .box b5 106 #[.int .i64 top, .int .i64 bot] :: os) from by rw [hG]; exact S2.out)
     have HGONE := Lib.hid (show G = rollGone top bot n L by rw [hG]; exact rgone_pos hn HMANY.out HKK.out hkm)
     obtain ⟨T, Ts, Tf, ⟨hT, hTs, hTf⟩, hos, hof, hO⟩ := roll_open hS2
     have hSl : Ts.length = 0 := by rw [← lnP_length, hTs]; rfl
     have hFl : Tf.length = k := by rw [← lnP_length, hTf]; simp [rollFresh]
     have hTl : T.length = L.length := by rw [← lnP_length, hT]
     obtain ⟨Af, cf, ef, hcf, -, -, hgf⟩ := hO.headsForm (k := 2) rfl
     rw [hdP_length, hFl] at ef hcf hgf
     obtain ⟨gf, rfl, hgfz, -, -⟩ := hgf hk0
     subst ef
     clear hgf
     have HLEFT := Lib.hid (rleft_pos (T := T) (Ts := Ts) (Tf := Tf) hn HMANY.out htb HKK.out hT (by rw [hTs, Nat.sub_self]; simp [lastHard, softMod]) hTf)
     obtain ⟨va, wa, hra, hSa, Aa, ca, hva⟩ := run_appH hO (k := 1) rfl (ad := ⟨gf, 0, none⟩) (m := k) (c := cf) (ds := hdP Tf) (by rw [hdP_length, hFl]) hcf (fun i y hy => by have := hO.headsSub (k := 2) (a := 0) (m := k) rfl (by rw [hdP_length]; omega) i y (by rw [List.drop_zero, List.take_of_length_le (by rw [hdP_length]; omega)]; exact hy); rwa [Nat.zero_mul] at this) hof (by rw [hdP_length, hdP_length]; omega) 30
     rw [hdP_length, hdP_length, hSl, hFl, Nat.zero_add] at hva
     subst hva
     obtain ⟨All, hAll⟩ : ∃ All, All = Ts ++ Tf := ⟨_, rfl⟩
     have hAl : All.length = k := by rw [hAll, List.length_append, hSl, hFl]; omega
     rw [← hdP_append, ← hAll] at hSa
     have hPP : (piP Tf ++ piP Ts).Perm (piP All) := by rw [hAll, piP_append]; exact List.perm_append_comm
     have HSLI := Lib.hid (show ∀ y ∈ All, ∃ A n c, y.1 = .slice A n c from fun y hy => (hO.pileForm (k := 5) rfl) (y.1, y.2.1) (List.mem_append.2 (.inr (hPP.mem_iff.2 (List.mem_map.2 ⟨y, hy, rfl⟩)))))
     rw [← hAll] at HLEFT
     clear hAll
     have hSb := (show Objs w0 wa (.heads (.slice (some ⟨gr, 0, none⟩) L.length c) (hdP T) :: .heads (.slice Aa k ca) (hdP All) :: .heads (.slice (some ⟨gf, 0, none⟩) k cf) (hdP Tf) :: .box x 33 #[.int .i64 cols, .slice (some ⟨gr, 0, none⟩) L.length c] :: .box b5 106 #[.int .i64 top, .int .i64 bot] :: .pile (piP T ++ (piP Tf ++ piP Ts)) :: .lines (.slice Ag k cg) G :: .box b7 54 (pv q) :: os) from hSa).del 2
     have HRA := Lib.hid hra
     obtain ⟨A8, c8, e8, -, -, -, hg8⟩ := (show Objs w0 wa (.heads (.slice (some ⟨gr, 0, none⟩) L.length c) (hdP T) :: .heads (.slice Aa k ca) (hdP All) :: _) from hSb).headsForm (k := 1) rfl
     simp only [Value.slice.injEq] at e8
     obtain ⟨rfl, -, rfl⟩ := e8
     obtain ⟨ga, rfl, -, -, -⟩ := hg8 (by rw [hdP_length]; omega)
     have HPERM := Lib.hid (@rperm T Ts Tf top k All hPP)
     obtain ⟨P, hP⟩ : ∃ P, P = piP T ++ (piP Tf ++ piP Ts) := ⟨_, rfl⟩
     rw [← hP] at HPERM hSb
     obtain ⟨T1, hT1⟩ : ∃ T1, T1 = T.take top := ⟨_, rfl⟩
     obtain ⟨Rr, hRr⟩ : ∃ Rr, Rr = T.drop top := ⟨_, rfl⟩
     have hTT : hdP T = hdP T1 ++ (hdP (All.take 0) ++ hdP (Rr.drop 0)) := by rw [hT1, hRr]; simp [hdP]
     have HT1 := Lib.hid (show T1.length = top by rw [hT1]; simp; omega)
     have HRL := Lib.hid (show Rr.length = L.length - top by rw [hRr]; simp; omega)
     rw [← hT1, ← hRr] at HPERM
     rw [← hT1, ← hRr] at HLEFT
     rw [hTT] at hSb
     have SB := Lib.hid hSb
     have HAL := Lib.hid hAl
     clear hSa hSb hra hO hg8 hP hT1 hRr hTT hPP hS2 hT hTs hTf hos hof hSl hFl hTl hG hcf hGl0 hAl SZ
     go_wp2_with (at_builtin; refine wpList_app _ _ (wanted_none rfl) rfl rfl rfl HRA.out ?_)
     go_loopw [17] (fun vi wr => ∃ d : Nat, d ≤ k ∧ vi = .int .i64 d ∧ Objs w0 wr (.heads (.slice (some ⟨gr, 0, none⟩) L.length c) (hdP T1 ++ (hdP (All.take d) ++ hdP (Rr.drop d))) :: .heads (.slice (some ⟨ga, 0, none⟩) k ca) (hdP All) :: .box x 33 #[.int .i64 cols, .slice (some ⟨gr, 0, none⟩) L.length c] :: .box b5 106 #[.int .i64 top, .int .i64 bot] :: .pile P :: .lines (.slice Ag k cg) G :: .box b7 54 (pv q) :: os)) (fun vi _ => k - (intOf vi).toNat)
     case atStart => exact ⟨0, by omega, rfl, SB.out⟩
     case round =>
      obtain ⟨d, hdm, rfl, hS⟩ := hrel
      have S8 := Lib.hid hS
      clear hS SB
      by_cases hlt : d < k
      case neg =>
       have hX := S8.out
       have hd : d = k := by omega
       rw [hd, List.take_of_length_le (by rw [HAL.out]; exact Nat.le_refl _), ← hdP_append, ← hdP_append] at hX
       have hX2 := roll_shut HPERM.out hX
       obtain ⟨L1, hL1⟩ : ∃ L1, L1 = lnP (T1 ++ (All ++ Rr.drop k)) := ⟨_, rfl⟩
       have HLF := HLEFT
       rw [← hL1] at hX2 HLF
       have hL1l : L1.length = L.length := by rw [hL1, lnP_length]; simp only [List.length_append, List.length_drop]; have := HT1.out; have := HRL.out; have := HAL.out; omega
       have SX := Lib.hid hX2
       obtain ⟨hx5, hf5, hz5⟩ := (hX2.box (k := 2) rfl).facts
       clear hX hX2 hd hL1 S8
       by_cases ht0 : top = 0
       ·have HT0 := Lib.hid (show topHard top L1 = L1 by unfold topHard; rw [if_neg (by omega)])
        have htg : ¬ (0 : Int) < (top : Int) := by omega
        have SF := Lib.hid (fin_roll2 SX.out)
        clear ht0
        go_wp2_with fail
        go_ret
        exact ⟨Ag, k, cg, rfl, by rw [← HGONE.out, ← HLF.out, HT0.out]; exact SF.out⟩
       ·have htg : (0 : Int) < (top : Int) := by omega
        obtain ⟨l9, hlt1⟩ := get_of (show top - 1 < L1.length by omega)
        have HT0 := Lib.hid (show L1.set (top - 1) (l9.1, false) = topHard top L1 by unfold topHard; rw [if_pos (by omega), softMod_some hlt1])
        have HWT := Lib.hid (show IntKind.i64.wrap ((top : Int) - 1) = (top : Int) - 1 from IntWalk.i64_in _ (by omega))
        have htz : (0 : Int) ≤ (top : Int) - 1 := by omega
        have htz2 : (top : Int) - 1 < (L.length : Int) := by omega
        have htz3 : ¬ (top : Int) < 1 := by omega
        have htn : ((top : Int) - 1).toNat = top - 1 := by omega
        have SY := SX
        go_upto_region 27 with (fail)
        refine wp_region_stage (w0 := w0) (os := (.lines (.slice Ag k cg) G :: .box b7 54 (pv q) :: os)) (by kernel_rfl) (by kernel_rfl) (by kernel_rfl) [(0, 9, [], fun vs => .lines (.slice (some ⟨gr, 0, none⟩) L.length c) (L1.set (top - 1) (l9.1, false)))] [[], [], [], [1], [], [2], [], [], [], [0]] [.lines (.slice (some ⟨gr, 0, none⟩) L.length c) L1, .box x 33 #[.int .i64 ↑cols, .slice (some ⟨gr, 0, none⟩) L.length c], .box b5 106 #[.int .i64 ↑top, .int .i64 ↑bot]] (fun i u => match i with | 0 => u = pt x 0 | 1 => u = pt x 0 | 2 => u = pt x 1 | 3 => u = .slice (some ⟨gr, 0, none⟩) L.length c | 4 => u = pt b5 0 | 5 => u = .int .i64 ↑top | 6 => u = .int .i64 (↑top - 1) | 7 => u = pt gr ((top - 1) * 2) | 8 => u = pt gr ((top - 1) * 2 + 1) | 9 => True | _ => True) (fun vs => [.lines (.slice (some ⟨gr, 0, none⟩) L.length c) (L1.set (top - 1) (l9.1, false)), .box x 33 #[.int .i64 ↑cols, .slice (some ⟨gr, 0, none⟩) L.length c], .box b5 106 #[.int .i64 ↑top, .int .i64 ↑bot]]) (by kernel_rfl) (fun vs => by rfl) SY.out ?_ ?_
        ·apply sc
         ·intro a w' vs σ hS hl hs hk
          have f0 : a.tmps[0]?.getD undef = .pointer (some ⟨x, 0, none⟩) := sof hk
          exact rp (pt x 0) (by simp [execOp, Act.eval, f0, go_sem]) hl hs hS
         apply sc
         ·intro a w' vs σ hS hl hs hk
          have f124 : a.tmps[124]?.getD undef = .pointer (some ⟨x, 0, none⟩) := sf hk 0
          exact rp (pt x 0) (by simp [execOp, Act.eval, f124, go_sem]) hl hs hS
         apply sc
         ·intro a w' vs σ hS hl hs hk
          have f125 : a.tmps[125]?.getD undef = .pointer (some ⟨x, 0, none⟩) := sf hk 1
          exact rp (pt x 1) (by simp [execOp, Act.eval, f125, go_sem]) hl hs hS
         apply sc
         ·intro a w' vs σ hS hl hs hk
          have f126 : a.tmps[126]?.getD undef = .pointer (some ⟨x, 1, none⟩) := sf hk 2
          have hx := (hS.box (sg (hs 1 (by decide)))).cell
          exact rp (.slice (some ⟨gr, 0, none⟩) L.length c) (by simp [execOp, Act.eval, f126, go_sem, hx]) hl hs hS
         apply sc
         ·intro a w' vs σ hS hl hs hk
          have f5 : a.tmps[5]?.getD undef = .pointer (some ⟨b5, 0, none⟩) := sof hk
          exact rp (pt b5 0) (by simp [execOp, Act.eval, f5, go_sem]) hl hs hS
         apply sc
         ·intro a w' vs σ hS hl hs hk
          have f128 : a.tmps[128]?.getD undef = .pointer (some ⟨b5, 0, none⟩) := sf hk 4
          have hx := (hS.box (sg (hs 2 (by decide)))).cell
          exact rp (.int .i64 ↑top) (by simp [execOp, Act.eval, f128, go_sem, hx]) hl hs hS
         apply sc
         ·intro a w' vs σ hS hl hs hk
          have f129 : a.tmps[129]?.getD undef = .int .i64 ↑top := sf hk 5
          exact rp (.int .i64 (↑top - 1)) (by simp [execOp, Act.eval, f129, go_sem, HWT.out]) hl hs hS
         apply sc
         ·intro a w' vs σ hS hl hs hk
          have f127 : a.tmps[127]?.getD undef = .slice (some ⟨gr, 0, none⟩) L.length c := sf hk 3
          have f130 : a.tmps[130]?.getD undef = .int .i64 (↑top - 1) := sf hk 6
          exact rp (pt gr ((top - 1) * 2)) (by simp [execOp, Act.eval, f127, f130, go_sem, htz, htz2, htn, htz3]) hl hs hS
         apply sc
         ·intro a w' vs σ hS hl hs hk
          have f131 : a.tmps[131]?.getD undef = .pointer (some ⟨gr, (top - 1) * 2, none⟩) := sf hk 7
          exact rp (pt gr ((top - 1) * 2 + 1)) (by simp [execOp, Act.eval, f131, go_sem]) hl hs hS
         apply sc
         ·intro a w' vs σ hS hl hs hk
          have f132 : a.tmps[132]?.getD undef = .pointer (some ⟨gr, (top - 1) * 2 + 1, none⟩) := sf hk 8
          have h1 : σ[0]? = some (.lines (.slice (some ⟨gr, 0, none⟩) L.length c) L1) := hs 0 (by decide)
          obtain ⟨F9, bs9, hF9, -⟩ := hS.get (sg h1)
          obtain ⟨A9, c9, e9, -, -, -, hg9⟩ := hF9.form
          simp only [Value.slice.injEq] at e9
          obtain ⟨rfl, -, rfl⟩ := e9
          obtain ⟨g9, e9', hz, -, hso, hf⟩ := hg9 (by omega)
          cases e9'
          have hx := hso _ _ hlt1
          exact rstep_store (w2 := w'.setCell ⟨gr, (top - 1) * 2 + 1, none⟩ (.bool false)) (wanted_none rfl) rfl (by simp [execOp, Act.eval, f132, hx, hf, hz, go_sem]) (sp_set 0 (.lines (.slice (some ⟨gr, 0, none⟩) L.length c) (L1.set (top - 1) (l9.1, false))) (by kernel_rfl) (by simp) (by decide) hl hs (by rfl) (hS.storeSoft (sg h1) hlt1) trivial) trivial
         exact SSteps.nil
        ·intro vs w' hS hv
         have q0 : vs 0 = _ := hv 0 (by decide)
         have q1 : vs 1 = _ := hv 1 (by decide)
         have q2 : vs 2 = _ := hv 2 (by decide)
         have q3 : vs 3 = _ := hv 3 (by decide)
         have q4 : vs 4 = _ := hv 4 (by decide)
         have q5 : vs 5 = _ := hv 5 (by decide)
         have q6 : vs 6 = _ := hv 6 (by decide)
         have q7 : vs 7 = _ := hv 7 (by decide)
         have q8 : vs 8 = _ := hv 8 (by decide)
         have S2 := Lib.hid hS
         simp only [putL, Act.put, Nat.zero_add, Nat.reduceAdd, List.setIfInBounds_toArray, List.set_cons_succ, List.set_cons_zero, q0, q1, q2, q3, q4, q5, q6, q7, q8]
         clear hS hv q0 q1 q2 q3 q4 q5 q6 q7 q8
         have S9 := S2.out
         rw [HT0.out] at S9
         have SF := Lib.hid (fin_roll2 S9)
         clear S9 S2
         go_wp2_with fail
         go_ret
         exact ⟨Ag, k, cg, rfl, by rw [← HGONE.out, ← HLF.out]; exact SF.out⟩
      have hdA : d < All.length := by rw [HAL.out]; exact hlt
      have hdR : d < Rr.length := by rw [HRL.out]; omega
      obtain ⟨Ad, nd, cd, hsl⟩ := HSLI.out All[d] (List.getElem_mem hdA)
      have hdz : (0 : Int) ≤ (d : Int) := by omega
      have hdz2 : (d : Int) < (k : Int) := by omega
      have htz : (0 : Int) ≤ (top : Int) + (d : Int) := by omega
      have htz2 : (top : Int) + (d : Int) < (L.length : Int) := by omega
      have htn : ((top : Int) + (d : Int)).toNat = top + d := by omega
      have HWD := Lib.hid (show IntKind.i64.wrap ((top : Int) + (d : Int)) = (top : Int) + (d : Int) from IntWalk.i64_in _ (by omega))
      have HHL := Lib.hid (show (hdP T1 ++ (hdP (All.take d) ++ hdP (Rr.drop d))).length = top + (d + (Rr.length - d)) by simp only [List.length_append, hdP_length, List.length_drop, List.length_take, HT1.out]; omega)
      go_upto_region 25 with (fail)
      refine wp_region_stage (w0 := w0) (os := (.pile P :: .lines (.slice Ag k cg) G :: .box b7 54 (pv q) :: os)) (by kernel_rfl) (by kernel_rfl) (by kernel_rfl) [(0, 13, [], fun vs => .heads (.slice (some ⟨gr, 0, none⟩) L.length c) (List.set (hdP T1 ++ (hdP (All.take d) ++ hdP (Rr.drop d))) (top + d) (All[d].1, All[d].2.2)))] [[], [], [], [2], [], [3], [], [], [], [], [], [1], [], [0]] [.heads (.slice (some ⟨gr, 0, none⟩) L.length c) (hdP T1 ++ (hdP (All.take d) ++ hdP (Rr.drop d))), .heads (.slice (some ⟨ga, 0, none⟩) k ca) (hdP All), .box x 33 #[.int .i64 ↑cols, .slice (some ⟨gr, 0, none⟩) L.length c], .box b5 106 #[.int .i64 ↑top, .int .i64 ↑bot]] (fun i u => match i with | 0 => u = pt x 0 | 1 => u = pt x 0 | 2 => u = pt x 1 | 3 => u = .slice (some ⟨gr, 0, none⟩) L.length c | 4 => u = pt b5 0 | 5 => u = .int .i64 ↑top | 6 => u = .int .i64 ↑d | 7 => u = .int .i64 (↑top + ↑d) | 8 => u = .slice (some ⟨ga, 0, none⟩) k ca | 9 => u = .int .i64 ↑d | 10 => u = pt ga (d * 2) | 11 => u = .agg #[All[d].1, .bool All[d].2.2] | 12 => u = pt gr ((top + d) * 2) | 13 => True | _ => True) (fun vs => [.heads (.slice (some ⟨gr, 0, none⟩) L.length c) (List.set (hdP T1 ++ (hdP (All.take d) ++ hdP (Rr.drop d))) (top + d) (All[d].1, All[d].2.2)), .heads (.slice (some ⟨ga, 0, none⟩) k ca) (hdP All), .box x 33 #[.int .i64 ↑cols, .slice (some ⟨gr, 0, none⟩) L.length c], .box b5 106 #[.int .i64 ↑top, .int .i64 ↑bot]]) (by kernel_rfl) (fun vs => by rfl) S8.out ?_ ?_
      ·apply sc
       ·intro a w' vs σ hS hl hs hk
        have f0 : a.tmps[0]?.getD undef = .pointer (some ⟨x, 0, none⟩) := sof hk
        exact rp (pt x 0) (by simp [execOp, Act.eval, f0, go_sem]) hl hs hS
       apply sc
       ·intro a w' vs σ hS hl hs hk
        have f108 : a.tmps[108]?.getD undef = .pointer (some ⟨x, 0, none⟩) := sf hk 0
        exact rp (pt x 0) (by simp [execOp, Act.eval, f108, go_sem]) hl hs hS
       apply sc
       ·intro a w' vs σ hS hl hs hk
        have f109 : a.tmps[109]?.getD undef = .pointer (some ⟨x, 0, none⟩) := sf hk 1
        exact rp (pt x 1) (by simp [execOp, Act.eval, f109, go_sem]) hl hs hS
       apply sc
       ·intro a w' vs σ hS hl hs hk
        have f110 : a.tmps[110]?.getD undef = .pointer (some ⟨x, 1, none⟩) := sf hk 2
        have hx := (hS.box (sg (hs 2 (by decide)))).cell
        exact rp (.slice (some ⟨gr, 0, none⟩) L.length c) (by simp [execOp, Act.eval, f110, go_sem, hx]) hl hs hS
       apply sc
       ·intro a w' vs σ hS hl hs hk
        have f5 : a.tmps[5]?.getD undef = .pointer (some ⟨b5, 0, none⟩) := sof hk
        exact rp (pt b5 0) (by simp [execOp, Act.eval, f5, go_sem]) hl hs hS
       apply sc
       ·intro a w' vs σ hS hl hs hk
        have f112 : a.tmps[112]?.getD undef = .pointer (some ⟨b5, 0, none⟩) := sf hk 4
        have hx := (hS.box (sg (hs 3 (by decide)))).cell
        exact rp (.int .i64 ↑top) (by simp [execOp, Act.eval, f112, go_sem, hx]) hl hs hS
       apply sc
       ·intro a w' vs σ hS hl hs hk
        have f17 : a.tmps[17]?.getD undef = .int .i64 ↑d := sof hk
        exact rp (.int .i64 ↑d) (by simp [execOp, Act.eval, f17, go_sem]) hl hs hS
       apply sc
       ·intro a w' vs σ hS hl hs hk
        have f113 : a.tmps[113]?.getD undef = .int .i64 ↑top := sf hk 5
        have f114 : a.tmps[114]?.getD undef = .int .i64 ↑d := sf hk 6
        exact rp (.int .i64 (↑top + ↑d)) (by simp [execOp, Act.eval, f113, f114, go_sem, HWD.out]) hl hs hS
       apply sc
       ·intro a w' vs σ hS hl hs hk
        have f16 : a.tmps[16]?.getD undef = .slice (some ⟨ga, 0, none⟩) k ca := sof hk
        exact rp (.slice (some ⟨ga, 0, none⟩) k ca) (by simp [execOp, Act.eval, f16, go_sem]) hl hs hS
       apply sc
       ·intro a w' vs σ hS hl hs hk
        have f17 : a.tmps[17]?.getD undef = .int .i64 ↑d := sof hk
        exact rp (.int .i64 ↑d) (by simp [execOp, Act.eval, f17, go_sem]) hl hs hS
       apply sc
       ·intro a w' vs σ hS hl hs hk
        have f116 : a.tmps[116]?.getD undef = .slice (some ⟨ga, 0, none⟩) k ca := sf hk 8
        have f117 : a.tmps[117]?.getD undef = .int .i64 ↑d := sf hk 9
        exact rp (pt ga (d * 2)) (by simp [execOp, Act.eval, f116, f117, go_sem, hdz, hdz2]) hl hs hS
       apply sc
       ·intro a w' vs σ hS hl hs hk
        have f118 : a.tmps[118]?.getD undef = .pointer (some ⟨ga, d * 2, none⟩) := sf hk 10
        have h1 : σ[1]? = some (.heads (.slice (some ⟨ga, 0, none⟩) k ca) (hdP All)) := hs 1 (by decide)
        obtain ⟨A8, c8, e8, -, -, -, hg8⟩ := hS.headsForm (sg h1)
        simp only [Value.slice.injEq] at e8
        obtain ⟨rfl, -, rfl⟩ := e8
        obtain ⟨g8, e9, hz, hcs, hf⟩ := hg8 (by rw [hdP_length]; omega)
        cases e9
        obtain ⟨hx, hx'⟩ := hcs d (All[d].1, All[d].2.2) (by simp [hdP, hdA])
        exact ro_pure (v := .agg #[All[d].1, .bool All[d].2.2]) (wanted_none rfl) (by simp [execOp, Act.eval, f118, hx, hx', go_sem]) (sp_same (by kernel_rfl) hl hs hS rfl) trivial
       apply sc
       ·intro a w' vs σ hS hl hs hk
        have f111 : a.tmps[111]?.getD undef = .slice (some ⟨gr, 0, none⟩) L.length c := sf hk 3
        have f115 : a.tmps[115]?.getD undef = .int .i64 (↑top + ↑d) := sf hk 7
        exact rp (pt gr ((top + d) * 2)) (by simp [execOp, Act.eval, f111, f115, go_sem, htz, htz2, htn]) hl hs hS
       apply sc
       ·intro a w' vs σ hS hl hs hk
        have f120 : a.tmps[120]?.getD undef = .pointer (some ⟨gr, (top + d) * 2, none⟩) := sf hk 12
        have f119 : a.tmps[119]?.getD undef = .agg #[All[d].1, .bool All[d].2.2] := sf hk 11
        have h1 : σ[0]? = some (.heads (.slice (some ⟨gr, 0, none⟩) L.length c) (hdP T1 ++ (hdP (All.take d) ++ hdP (Rr.drop d)))) := hs 0 (by decide)
        obtain ⟨A8, c8, e8, -, -, -, hg8⟩ := hS.headsForm (sg h1)
        simp only [Value.slice.injEq] at e8
        obtain ⟨rfl, -, rfl⟩ := e8
        have hHl := HHL.out
        obtain ⟨g8, e9, hz, hcs, hf⟩ := hg8 (by omega)
        cases e9
        obtain ⟨x8, hx8⟩ := get_of (show top + d < (hdP T1 ++ (hdP (All.take d) ++ hdP (Rr.drop d))).length by omega)
        obtain ⟨hx, hx'⟩ := hcs (top + d) x8 hx8
        exact rstep_store (w2 := (w'.setCell ⟨gr, (top + d) * 2, none⟩ All[d].1).setCell ⟨gr, (top + d) * 2 + 1, none⟩ (.bool All[d].2.2)) (wanted_none rfl) rfl (by simp [execOp, Act.eval, f120, f119, hsl, hx, hx', hf, hz, go_sem]) (sp_set 0 (.heads (.slice (some ⟨gr, 0, none⟩) L.length c) (List.set (hdP T1 ++ (hdP (All.take d) ++ hdP (Rr.drop d))) (top + d) (All[d].1, All[d].2.2))) (by kernel_rfl) (by simp) (by decide) hl hs (by rfl) (hS.storeHead (sg h1)) trivial) trivial
       exact SSteps.nil
      ·intro vs w' hS hv
       have q0 : vs 0 = _ := hv 0 (by decide)
       have q1 : vs 1 = _ := hv 1 (by decide)
       have q2 : vs 2 = _ := hv 2 (by decide)
       have q3 : vs 3 = _ := hv 3 (by decide)
       have q4 : vs 4 = _ := hv 4 (by decide)
       have q5 : vs 5 = _ := hv 5 (by decide)
       have q6 : vs 6 = _ := hv 6 (by decide)
       have q7 : vs 7 = _ := hv 7 (by decide)
       have q8 : vs 8 = _ := hv 8 (by decide)
       have q9 : vs 9 = _ := hv 9 (by decide)
       have q10 : vs 10 = _ := hv 10 (by decide)
       have q11 : vs 11 = _ := hv 11 (by decide)
       have q12 : vs 12 = _ := hv 12 (by decide)
       have S2 := Lib.hid hS
       simp only [putL, Act.put, Nat.zero_add, Nat.reduceAdd, List.setIfInBounds_toArray, List.set_cons_succ, List.set_cons_zero, q0, q1, q2, q3, q4, q5, q6, q7, q8, q9, q10, q11, q12]
       clear hS hv q0 q1 q2 q3 q4 q5 q6 q7 q8 q9 q10 q11 q12
       have S9 := S2.out
       rw [hdP_fill All[d].1 All[d].2.1 All[d].2.2 HT1.out (by rw [List.length_take]; omega) hdR, show All.take d ++ [(All[d].1, All[d].2.1, All[d].2.2)] = All.take (d + 1) from (List.take_succ_eq_append_getElem hdA).symm] at S9
       have S10 := Lib.hid S9
       clear S9 S2
       go_wp2_with fail
       go_roundw
       case rel => exact ⟨d + 1, by omega, by go_num, S10.out⟩
       case measure => simp [intOf]; omega
end
end Go.Proofs.YtppijfjigcoifaaDoor

namespace Go.Proofs.YtppijfjigcoifaaDoor
open Go.RowKit

section
variable {w0 w : World} {os : List Ob} {v : Value} {hp : List (Value × Bool)}
theorem run_appE (hS : Objs w0 w os) {k j : Nat} (hk : os[k]? = some (.heads v hp)) {A : Option Addr} {c : Nat} {hq : List (Value × Bool)} (hj : os[j]? = some (.heads (.slice A 0 c) hq)) (hlen : hp.length ≤ 1000000) (ty : TypeId) :
  ∃ v' w', (Builtin.append_ #[30, 30] ty #[v, .slice A 0 c]).run Tryd.prog w = .ok v' w' ∧ Objs w0 w' (os.set k (.heads v' hp)) ∧ ∃ A' c', v' = .slice A' hp.length c' := by
 rcases A with _ | ad
 ·obtain ⟨i, hi, hz0, hz1, hz2⟩ := info_parts line_info
  have ho := hS.headsOwn hk
  have hoj := hS.headsOwn hj
  obtain rfl : c = 0 := by
   rcases hoj.2 with ⟨h1, -⟩ | ⟨g, cap, cur, h1, -⟩
   ·cases h1; rfl
   ·cases h1
  obtain ⟨A', c', e, -⟩ := own_form ho
  exact ⟨v, w, run_append_owned_none (P := Tryd.prog) (w := w) 0 30 ty 39 i 2 Tryd.underlying30 hi v _ _ ho, by rwa [set_self hk], A', c', e⟩
 ·obtain ⟨v', w', h1, h2, A', c', h3⟩ := run_appH hS hk (ad := ad) (m := 0) (c := c) (ds := []) rfl (Nat.zero_le _) (fun i x hx => by simp [flat2] at hx) (fun x hx => by simp at hx) (by simpa using hlen) ty
  rw [List.append_nil] at h2
  exact ⟨v', w', h1, h2, A', c', by simpa using h3⟩
end
section
variable {w0 w : World} {os : List Ob} {x cols : Nat} {L : List Ln}
set_option maxRecDepth 100000 in
set_option maxHeartbeats 8000000 in
theorem r14Roll_neg {top bot k : Nat} {n : Int} (q : Pen) (hS : Objs w0 w (.grid x 33 cols L :: os)) (hcm : cols ≤ 1000) (hL : L.length ≤ 1000) (hmill : ∀ l ∈ L, l.1.length ≤ 1000000) (htb : top ≤ bot) (hbl : bot < L.length) (hn : n < 0) (hk : (-((bot + 1 - top : Nat) : Int) < n ∧ n = -(k : Int)) ∨ ((n ≤ -((bot + 1 - top : Nat) : Int) ∧ -9223372036854775808 ≤ n) ∧ k = bot + 1 - top)) :
  Calls Tryd.prog 83 #[.pointer (some ⟨x, 0, none⟩), .agg #[.int .i64 top, .int .i64 bot], .int .i64 n, .agg (pv q)] w fun e w' => ∃ A m c, e = .returned (.slice A m c) ∧ Objs w0 w' (.lines (.slice A m c) (rollGone top bot n L) :: .grid x 33 cols (rollL top bot n q cols L) :: os) := by
 have S := Lib.hid hS
 have HMILL := Lib.hid hmill
 obtain ⟨many, hmany⟩ : ∃ many, many = bot + 1 - top := ⟨_, rfl⟩
 have HMANY := Lib.hid hmany
 have hb0 := beq_no (show ¬ n = 0 by omega)
 have HK := Lib.hid hk
 have HMI := Lib.hid (show (bot : Int) - (top : Int) + 1 = (many : Int) by omega)
 have HBI := Lib.hid (show bot + 1 - top = many from hmany.symm)
 have hmb : many ≤ 1000 := by omega
 have hm1 : 0 < many := by omega
 have htm : top + many ≤ L.length := by omega
 have hkm : k ≤ many := by omega
 have hk0 : 0 < k := by omega
 rw [← hmany] at hk
 have HKK := Lib.hid (rollK_is (n := n) (k := k) hmany (by rcases hk with ⟨a1, a2⟩ | ⟨⟨a1, a3⟩, a2⟩ <;> omega))
 clear hS hmany hmill
 go_enter Tryd.func83, Tryd.ntmps83
 go_upto_region 1 with (fail)
 refine at_objsC S.out.alloc2 (fun W hW => ?_)
 generalize w.heap.size + 1 = b7 at hW ⊢
 generalize w.heap.size = b5 at hW ⊢
 obtain ⟨v, hS1⟩ := hW.openGrid (k := 2) rfl
 obtain ⟨A, c, rfl, hcmx, hrl⟩ := hS1.linesRd (k := 0) rfl
 have hlc : L.length ≤ c := hrl.1
 obtain ⟨gr, off0, rfl, -⟩ : ∃ b off, A = some ⟨b, off, none⟩ ∧ True := by obtain ⟨b, off, e, -⟩ := hrl.2.2 (by omega); exact ⟨b, off, e, trivial⟩
 obtain rfl : off0 = 0 := by
  obtain ⟨F, bs, hF, -⟩ := hS1.get (k := 0) rfl
  obtain ⟨A2, c2, e2, -, -, -, h4⟩ := hF.form
  simp only [Value.slice.injEq, true_and] at e2
  obtain ⟨rfl, rfl⟩ := e2
  obtain ⟨g, e3, -⟩ := h4 (by omega)
  cases e3; rfl
 have S1 := Lib.hid (ord_a (show Objs w0 W (.lines (.slice none 0 0) [] :: .lines (.slice (some ⟨gr, 0, none⟩) L.length c) L :: .box b7 54 (pv q) :: .box b5 106 #[.int .i64 top, .int .i64 bot] :: .box x 33 #[.int .i64 cols, .slice (some ⟨gr, 0, none⟩) L.length c] :: os) from hS1.nilLines))
 obtain ⟨hx5, hf5, hz5⟩ := (hS1.box (k := 2) rfl).facts
 have hctop : many ≤ c - top := by omega
 clear hW hS1 hrl
 rcases hk with ⟨h1, h2⟩ | ⟨⟨h1, h3⟩, h2⟩
 ·subst h2
  have hmax : max (-(k : Int)) (k : Int) = (k : Int) := by omega
  have hngt : ¬ (0 : Int) < -(k : Int) := by omega
  have hnlt : -(k : Int) < 0 := by omega
  have hkl : k < many := by omega
  have HWK := Lib.hid (show IntKind.i64.wrap ((many : Int) - (k : Int)) = (many : Int) - (k : Int) from IntWalk.i64_in _ (by omega))
  have HKQ := Lib.hid (show many - (many - k) = k from Nat.sub_sub_self hkm)
  have hmi := HMI.out
  go_wp2_with fail
  go_loopw [11, 12] (fun u11 vi wr => ∃ (d : Nat) (vf : Value), d ≤ k ∧ vf = u11 ∧ vi = .int .i64 d ∧ Objs w0 wr (.lines vf (rollFresh d cols q) :: .box b7 54 (pv q) :: .box x 33 #[.int .i64 cols, .slice (some ⟨gr, 0, none⟩) L.length c] :: .lines (.slice (some ⟨gr, 0, none⟩) L.length c) L :: .box b5 106 #[.int .i64 top, .int .i64 bot] :: os)) (fun _ vi _ => k - (intOf vi).toNat)
  case atStart => exact ⟨0, _, by omega, rfl, rfl, S1.out⟩
  case round =>
   obtain ⟨d, vf, hdk, rfl, rfl, hS⟩ := hrel
   have S2 := Lib.hid hS
   clear hS S1
   by_cases hlt : d < k
   ·have SZ := Lib.hid S2.out.pad.pad
    clear S2
    go_upto_region 11 with (fail)
    refine wp_region_stage (w0 := w0) (os := (.lines (.slice (some ⟨gr, 0, none⟩) L.length c) L :: .box b5 106 #[.int .i64 ↑top, .int .i64 ↑bot] :: os)) (by kernel_rfl) (by kernel_rfl) (by kernel_rfl) [(0, 6, [6], fun vs => .cells (lineV (vs 6)) (List.replicate cols (blank q))), (1, 7, [6, 7], fun vs => .box (blkOf (vs 7)) 39 #[lineV (vs 6), .bool false]), (2, 8, [8], fun vs => .lines (vs 8) (rollFresh (d + 1) cols q)), (0, 8, [], fun vs => .none), (2, 9, [9], fun vs => .lines (vs 9) (rollFresh (d + 1) cols q))] [[], [], [], [], [4], [3], [0], [1], [0, 1, 2], [2]] [.none, .none, .lines vf (rollFresh d cols q), .box b7 54 (pv q), .box x 33 #[.int .i64 ↑cols, .slice (some ⟨gr, 0, none⟩) L.length c]] (fun i u => match i with | 0 => u = (vf : Value) | 1 => u = pt x 0 | 2 => u = pt x 0 | 3 => u = pt x 0 | 4 => u = .int .i64 ↑cols | 5 => u = .agg (pv q) | 6 => ∃ y, u = .agg #[y, .bool false] | 7 => ∃ g, u = .slice (some ⟨g, 0, none⟩) 1 1 | 8 => ∃ A m c, u = .slice A m c | 9 => ∃ A m c, u = .slice A m c | _ => True) (fun vs => [.none, .box (blkOf (vs 7)) 39 #[lineV (vs 6), .bool false], .lines (vs 9) (rollFresh (d + 1) cols q), .box b7 54 (pv q), .box x 33 #[.int .i64 ↑cols, .slice (some ⟨gr, 0, none⟩) L.length c]]) (by kernel_rfl) (fun vs => by rfl) SZ.out ?_ ?_
    ·apply sc
     ·intro a w' vs σ hS hl hs hk
      have e11 : a.tmps.getD 11 undef = (vf : Value) := (sk_later hk 9 (by kernel_rfl) rfl rfl).trans rfl
      have f11 := gd e11
      exact rp vf (by simp [execOp, Act.eval, e11, f11, go_sem]) hl hs hS
     apply sc
     ·intro a w' vs σ hS hl hs hk
      have f0 : a.tmps[0]?.getD undef = .pointer (some ⟨x, 0, none⟩) := sof hk
      exact rp (pt x 0) (by simp [execOp, Act.eval, f0, go_sem]) hl hs hS
     apply sc
     ·intro a w' vs σ hS hl hs hk
      have f46 : a.tmps[46]?.getD undef = .pointer (some ⟨x, 0, none⟩) := sf hk 1
      exact rp (pt x 0) (by simp [execOp, Act.eval, f46, go_sem]) hl hs hS
     apply sc
     ·intro a w' vs σ hS hl hs hk
      have f47 : a.tmps[47]?.getD undef = .pointer (some ⟨x, 0, none⟩) := sf hk 2
      exact rp (pt x 0) (by simp [execOp, Act.eval, f47, go_sem]) hl hs hS
     apply sc
     ·intro a w' vs σ hS hl hs hk
      have f48 : a.tmps[48]?.getD undef = .pointer (some ⟨x, 0, none⟩) := sf hk 3
      have hx := (hS.box (sg (hs 4 (by decide)))).cell
      exact rp (.int .i64 ↑cols) (by simp [execOp, Act.eval, f48, go_sem, hx]) hl hs hS
     apply sc
     ·intro a w' vs σ hS hl hs hk
      have f7 : a.tmps[7]?.getD undef = .pointer (some ⟨b7, 0, none⟩) := sof hk
      have hx := (hS.box (sg (hs 3 (by decide)))).penAt
      exact rp (.agg (pv q)) (by simp [execOp, Act.eval, f7, go_sem, hx]) hl hs hS
     apply sc
     ·intro a w' vs σ hS hl hs hk
      have e49 : a.tmps.getD 49 undef = .int .i64 ↑cols := sv hk 4
      have e50 : a.tmps.getD 50 undef = .agg (pv q) := sv hk 5
      have h0 : σ[0]? = some .none := hs 0 (by decide)
      exact ro_call (f := 59) (wanted_none rfl) rfl (by simp only [List.map_toArray, List.map_cons, List.map_nil, Act.eval, e49, e50] <;> rfl) (fun _ _ => by kernel_rfl) ((r14Blanks_any cols (by omega) q w0 w' _ hS).mono fun e w2 ⟨y, h1, h2⟩ => ⟨_, h1, sp_set 0 (.cells y (List.replicate cols (blank q))) (by kernel_rfl) (by simp) (by decide) hl hs (by rfl) (h2.place (sg h0)) ⟨y, rfl⟩, trivial⟩)
     apply sc
     ·intro a w' vs σ hS hl hs hk
      have e51 : a.tmps.getD 51 undef = vs 6 := sk_val hk 6 (by kernel_rfl) rfl rfl
      have p51 : (fun u : Value => ∃ y, u = .agg #[y, .bool false]) (vs 6) := (hk.1 6 (by kernel_rfl)).1
      obtain ⟨y, hx⟩ := p51
      have e9 := e51.trans hx
      have f9 := gd e9
      have h1 : σ[1]? = some .none := hs 1 (by decide)
      exact rs_run (wanted_none rfl) (exec_bsl rfl (by simp [Act.eval, e9, f9]) (run_bsl y false w')) (sp_set 1 (.box w'.heap.size 39 #[y, .bool false]) (by kernel_rfl) (by simp) (by decide) hl hs (by show Ob.box (blkOf (.slice (some ⟨w'.heap.size, 0, none⟩) 1 1)) 39 #[lineV (vs 6), .bool false] = _; rw [hx]; rfl) (hS.alloc1.place (sg h1)) ⟨_, rfl⟩)
     apply sc
     ·intro a w' vs σ hS hl hs hk
      have e45 : a.tmps.getD 45 undef = (vf : Value) := sv hk 0
      have e52 : a.tmps.getD 52 undef = vs 7 := sk_val hk 7 (by kernel_rfl) rfl rfl
      have p52 : (fun u : Value => ∃ g, u = .slice (some ⟨g, 0, none⟩) 1 1) (vs 7) := (hk.1 7 (by kernel_rfl)).1
      have h2 : σ[2]? = some (.lines vf (rollFresh d cols q)) := hs 2 (by decide)
      have h0 : σ[0]? = some (.cells (lineV (vs 6)) (List.replicate cols (blank q))) := hs 0 (by decide)
      have h1 : σ[1]? = some (.box (blkOf (vs 7)) 39 #[lineV (vs 6), .bool false]) := hs 1 (by decide)
      obtain ⟨g8, hg8⟩ := p52
      rw [hg8, show blkOf (.slice (some ⟨g8, 0, none⟩) 1 1) = g8 from rfl] at h1
      obtain ⟨v9, w9, hr, hS2, A9, c9, hv9⟩ := run_appL hS (k := 2) (j := 0) (ad := ⟨g8, 0, none⟩) (c := 1) (s := false) (sg h2) (sg h0) (by decide) (by rw [(hS.box (sg h1)).cell]; rfl) (by rw [add_at, (hS.box (sg h1)).cell]; rfl) (by simp [rollFresh]; omega) 30
      rw [show rollFresh d cols q ++ [((List.replicate cols (blank q)), false)] = (rollFresh (d + 1) cols q) from (List.replicate_succ' ..).symm] at hS2
      exact rs_run (wanted_none rfl) (exec_app rfl (by simp only [Act.eval]; exact e45) (by simp only [Act.eval]; exact e52.trans hg8) hr) (sp_set2 2 0 (.lines v9 (rollFresh (d + 1) cols q)) .none (by decide) (by kernel_rfl) (by simp) (by simp) (by decide) (by decide) hl hs (by rfl) (by rfl) hS2 ⟨A9, _, c9, hv9⟩)
     apply sc
     ·intro a w' vs σ hS hl hs hk
      have e53 : a.tmps.getD 53 undef = vs 8 := sk_val hk 8 (by kernel_rfl) rfl rfl
      have p53 : (fun u : Value => ∃ A m c, u = .slice A m c) (vs 8) := (hk.1 8 (by kernel_rfl)).1
      obtain ⟨A9, n9, c9, q9⟩ := p53
      have e9 := e53.trans q9
      have f9 := gd e9
      have h2 : σ[2]? = some (.lines (vs 8) (rollFresh (d + 1) cols q)) := hs 2 (by decide)
      rw [q9] at h2
      have hSS : Objs w0 w' ((σ ++ (.lines (.slice (some ⟨gr, 0, none⟩) L.length c) L :: .box b5 106 #[.int .i64 ↑top, .int .i64 ↑bot] :: os)).set 2 (.lines (.slice A9 n9 c9) (rollFresh (d + 1) cols q))) := by rw [set_self (sg h2)]; exact hS
      exact rs_run (v' := .slice A9 n9 c9) (w' := w') (wanted_none rfl) (by simp [execOp, Act.eval, e9, f9, go_sem]) (sp_set 2 (.lines (.slice A9 n9 c9) (rollFresh (d + 1) cols q)) (by kernel_rfl) (by simp) (by decide) hl hs (by rfl) hSS ⟨A9, n9, c9, rfl⟩)
     exact SSteps.nil
    ·intro vs w' hS hv
     have q0 : vs 0 = _ := hv 0 (by decide)
     have q1 : vs 1 = _ := hv 1 (by decide)
     have q2 : vs 2 = _ := hv 2 (by decide)
     have q3 : vs 3 = _ := hv 3 (by decide)
     have q4 : vs 4 = _ := hv 4 (by decide)
     have q5 : vs 5 = _ := hv 5 (by decide)
     have S2 := Lib.hid hS
     simp only [putL, Act.put, Nat.zero_add, Nat.reduceAdd, List.setIfInBounds_toArray, List.set_cons_succ, List.set_cons_zero, q0, q1, q2, q3, q4, q5]
     clear hS hv q0 q1 q2 q3 q4 q5
     go_wp2_with fail
     go_roundw
     case rel => exact ⟨d + 1, vs 9, by omega, rfl, by go_num, (S2.out.del 0).del 0⟩
     case measure => simp [intOf]; omega
   obtain rfl : k = d := by omega
   have S3 := Lib.hid (ord_b S2.out)
   obtain ⟨hxx, hfx, hzx⟩ := (S3.out.box (k := 3) rfl).facts
   clear hx5 hf5 hz5
   obtain ⟨hx5, hf5, hz5⟩ := (S3.out.box (k := 4) rfl).facts
   clear S2
   go_wp2_with fail
   refine wp_region_below (by kernel_rfl) (by kernel_rfl) ?_
   repeat (go_big_quiet_step (fail))
   refine wpQuiet_nil ?_
   intro w2 hb2
   have SZ := Lib.hid (S3.out.bel hb2).pad.pad
   clear hxx hfx hzx hx5 hf5 hz5 S3 hb2
   simp only [HBI.out]
   have hkz : (0 : Int) ≤ (many : Int) - (k : Int) := by omega
   have hkz2 : (many : Int) - (k : Int) ≤ (many : Int) := by omega
   have hkz3 : many - k ≤ c - top := by omega
   have hkz5 : ¬ c - top = many - k := by omega
   have hkz7 : ¬ many < k := by omega
   have hkz8 : ¬ ((c - top : Nat) : Int) < (many : Int) - (k : Int) := by omega
   have hkz6 : ((many : Int) - (k : Int)).toNat = many - k := by omega
   go_wp2_with fail
   refine wp_region_stage (w0 := w0) (os := (.lines vf (rollFresh k cols q) :: .box b7 54 (pv q) :: .box x 33 #[.int .i64 ↑cols, .slice (some ⟨gr, 0, none⟩) L.length c] :: .box b5 106 #[.int .i64 ↑top, .int .i64 ↑bot] :: os)) (by kernel_rfl) (by kernel_rfl) (by kernel_rfl) [(0, 5, [5], fun vs => .lines (vs 5) ((L.drop (top + (many - k))).take k)), (1, 11, [11], fun vs => .lines (vs 11) ((L.drop top).take (many - k))), (0, 12, [12], fun vs => .lines (vs 12) ((L.drop (top + (many - k))).take k)), (1, 13, [13], fun vs => .lines (vs 13) ((L.drop top).take (many - k)))] [[], [], [], [], [], [0, 2], [], [], [], [], [], [1, 2], [0], [1]] [.none, .none, .lines (.slice (some ⟨gr, 0, none⟩) L.length c) L] (fun i u => match i with | 0 => u = .slice (some ⟨gr, top * 2, none⟩) many (c - top) | 1 => u = .int .i64 ↑many | 2 => u = .int .i64 ↑k | 3 => u = .int .i64 (↑many - ↑k) | 4 => u = .slice (some ⟨gr, top * 2 + (many - k) * 2, none⟩) k (c - top - (many - k)) | 5 => ∃ A m c, u = .slice A m c | 6 => u = .slice (some ⟨gr, top * 2, none⟩) many (c - top) | 7 => u = .int .i64 ↑many | 8 => u = .int .i64 ↑k | 9 => u = .int .i64 (↑many - ↑k) | 10 => u = .slice (some ⟨gr, top * 2, none⟩) (many - k) (c - top) | 11 => ∃ A m c, u = .slice A m c | 12 => ∃ A m c, u = .slice A m c | 13 => ∃ A m c, u = .slice A m c | _ => True) (fun vs => [.lines (vs 12) ((L.drop (top + (many - k))).take k), .lines (vs 13) ((L.drop top).take (many - k)), .lines (.slice (some ⟨gr, 0, none⟩) L.length c) L]) (by kernel_rfl) (fun vs => by rfl) SZ.out ?_ ?_
   ·apply sc
    ·intro a w' vs σ hS hl hs hk
     have f13 : a.tmps[13]?.getD undef = .slice (some ⟨gr, top * 2, none⟩) many (c - top) := sof hk
     exact rp (.slice (some ⟨gr, top * 2, none⟩) many (c - top)) (by simp [execOp, Act.eval, f13, go_sem]) hl hs hS
    apply sc
    ·intro a w' vs σ hS hl hs hk
     have f9 : a.tmps[9]?.getD undef = .int .i64 ↑many := sof hk
     exact rp (.int .i64 ↑many) (by simp [execOp, Act.eval, f9, go_sem]) hl hs hS
    apply sc
    ·intro a w' vs σ hS hl hs hk
     have f10 : a.tmps[10]?.getD undef = .int .i64 ↑k := sof hk
     exact rp (.int .i64 ↑k) (by simp [execOp, Act.eval, f10, go_sem]) hl hs hS
    apply sc
    ·intro a w' vs σ hS hl hs hk
     have f75 : a.tmps[75]?.getD undef = .int .i64 ↑many := sf hk 1
     have f76 : a.tmps[76]?.getD undef = .int .i64 ↑k := sf hk 2
     exact rp (.int .i64 (↑many - ↑k)) (by simp [execOp, Act.eval, f75, f76, go_sem, HWK.out]) hl hs hS
    apply sc
    ·intro a w' vs σ hS hl hs hk
     have f74 : a.tmps[74]?.getD undef = .slice (some ⟨gr, top * 2, none⟩) many (c - top) := sf hk 0
     have f77 : a.tmps[77]?.getD undef = .int .i64 (↑many - ↑k) := sf hk 3
     exact rp (.slice (some ⟨gr, top * 2 + (many - k) * 2, none⟩) k (c - top - (many - k))) (by simp [execOp, Act.eval, f74, f77, go_sem, hkz, hkz2, hkz3, hkz5, hkz6, hkz7, hkz8, hkm, HWK.out, HKQ.out]) hl hs hS
    apply sc
    ·intro a w' vs σ hS hl hs hk
     have e78 : a.tmps.getD 78 undef = .slice (some ⟨gr, top * 2 + (many - k) * 2, none⟩) k (c - top - (many - k)) := sv hk 4
     have hn : σ[0]? = some .none := hs 0 (by decide)
     have h2 : σ[2]? = some (.lines (.slice (some ⟨gr, 0, none⟩) L.length c) L) := hs 2 (by decide)
     have hrl := (hS.linesRd' (sg h2)).2.2
     exact ro_call (f := 24) (wanted_none rfl) rfl (by simp only [List.map_toArray, List.map_cons, List.map_nil, Act.eval, e78] <;> rfl) (fun _ _ => by kernel_rfl) ((copies_at (L := ((L.drop (top + (many - k))).take k)) (by simp; omega) (hrl.part1 (by omega) (by omega)) (by simp; omega) (fun l hl => HMILL.out l (List.mem_of_mem_drop (List.mem_of_mem_take hl)))).mono fun e w2 ⟨y, h1, h2⟩ => ⟨_, h1, sp_set 0 (.lines y ((L.drop (top + (many - k))).take k)) (by kernel_rfl) (by simp) (by decide) hl hs (by rfl) ((hS.nest h2).place (sg hn)) (by obtain ⟨A, c, e, -⟩ := h2.linesRd (k := 0) rfl; exact ⟨A, _, c, e⟩), trivial⟩)
    apply sc
    ·intro a w' vs σ hS hl hs hk
     have f13 : a.tmps[13]?.getD undef = .slice (some ⟨gr, top * 2, none⟩) many (c - top) := sof hk
     exact rp (.slice (some ⟨gr, top * 2, none⟩) many (c - top)) (by simp [execOp, Act.eval, f13, go_sem]) hl hs hS
    apply sc
    ·intro a w' vs σ hS hl hs hk
     have f9 : a.tmps[9]?.getD undef = .int .i64 ↑many := sof hk
     exact rp (.int .i64 ↑many) (by simp [execOp, Act.eval, f9, go_sem]) hl hs hS
    apply sc
    ·intro a w' vs σ hS hl hs hk
     have f10 : a.tmps[10]?.getD undef = .int .i64 ↑k := sof hk
     exact rp (.int .i64 ↑k) (by simp [execOp, Act.eval, f10, go_sem]) hl hs hS
    apply sc
    ·intro a w' vs σ hS hl hs hk
     have f81 : a.tmps[81]?.getD undef = .int .i64 ↑many := sf hk 7
     have f82 : a.tmps[82]?.getD undef = .int .i64 ↑k := sf hk 8
     exact rp (.int .i64 (↑many - ↑k)) (by simp [execOp, Act.eval, f81, f82, go_sem, HWK.out]) hl hs hS
    apply sc
    ·intro a w' vs σ hS hl hs hk
     have f80 : a.tmps[80]?.getD undef = .slice (some ⟨gr, top * 2, none⟩) many (c - top) := sf hk 6
     have f83 : a.tmps[83]?.getD undef = .int .i64 (↑many - ↑k) := sf hk 9
     exact rp (.slice (some ⟨gr, top * 2, none⟩) (many - k) (c - top)) (by simp [execOp, Act.eval, f80, f83, go_sem, hkz, hkz2, hkz3, hkz5, hkz6, hkz7, hkz8, hkm, HWK.out, HKQ.out]) hl hs hS
    apply sc
    ·intro a w' vs σ hS hl hs hk
     have e84 : a.tmps.getD 84 undef = .slice (some ⟨gr, top * 2, none⟩) (many - k) (c - top) := sv hk 10
     have hn : σ[1]? = some .none := hs 1 (by decide)
     have h2 : σ[2]? = some (.lines (.slice (some ⟨gr, 0, none⟩) L.length c) L) := hs 2 (by decide)
     have hrl := (hS.linesRd' (sg h2)).2.2
     exact ro_call (f := 24) (wanted_none rfl) rfl (by simp only [List.map_toArray, List.map_cons, List.map_nil, Act.eval, e84] <;> rfl) (fun _ _ => by kernel_rfl) ((copies_at (L := ((L.drop top).take (many - k))) (by simp; omega) (hrl.part0 (by omega) (by omega)) (by simp; omega) (fun l hl => HMILL.out l (List.mem_of_mem_drop (List.mem_of_mem_take hl)))).mono fun e w2 ⟨y, h1, h2⟩ => ⟨_, h1, sp_set 1 (.lines y ((L.drop top).take (many - k))) (by kernel_rfl) (by simp) (by decide) hl hs (by rfl) ((hS.nest h2).place (sg hn)) (by obtain ⟨A, c, e, -⟩ := h2.linesRd (k := 0) rfl; exact ⟨A, _, c, e⟩), trivial⟩)
    apply sc
    ·intro a w' vs σ hS hl hs hk
     have e79 : a.tmps.getD 79 undef = vs 5 := sk_val hk 5 (by kernel_rfl) rfl rfl
     have p79 : (fun u : Value => ∃ A m c, u = .slice A m c) (vs 5) := (hk.1 5 (by kernel_rfl)).1
     obtain ⟨A9, n9, c9, q9⟩ := p79
     have e9 := e79.trans q9
     have f9 := gd e9
     have h2 : σ[0]? = some (.lines (vs 5) ((L.drop (top + (many - k))).take k)) := hs 0 (by decide)
     rw [q9] at h2
     have hSS : Objs w0 w' ((σ ++ (.lines vf (rollFresh k cols q) :: .box b7 54 (pv q) :: .box x 33 #[.int .i64 ↑cols, .slice (some ⟨gr, 0, none⟩) L.length c] :: .box b5 106 #[.int .i64 ↑top, .int .i64 ↑bot] :: os)).set 0 (.lines (.slice A9 n9 c9) ((L.drop (top + (many - k))).take k))) := by rw [set_self (sg h2)]; exact hS
     exact rs_run (v' := .slice A9 n9 c9) (w' := w') (wanted_none rfl) (by simp [execOp, Act.eval, e9, f9, go_sem]) (sp_set 0 (.lines (.slice A9 n9 c9) ((L.drop (top + (many - k))).take k)) (by kernel_rfl) (by simp) (by decide) hl hs (by rfl) hSS ⟨A9, n9, c9, rfl⟩)
    apply sc
    ·intro a w' vs σ hS hl hs hk
     have e85 : a.tmps.getD 85 undef = vs 11 := sk_val hk 11 (by kernel_rfl) rfl rfl
     have p85 : (fun u : Value => ∃ A m c, u = .slice A m c) (vs 11) := (hk.1 11 (by kernel_rfl)).1
     obtain ⟨A9, n9, c9, q9⟩ := p85
     have e9 := e85.trans q9
     have f9 := gd e9
     have h2 : σ[1]? = some (.lines (vs 11) ((L.drop top).take (many - k))) := hs 1 (by decide)
     rw [q9] at h2
     have hSS : Objs w0 w' ((σ ++ (.lines vf (rollFresh k cols q) :: .box b7 54 (pv q) :: .box x 33 #[.int .i64 ↑cols, .slice (some ⟨gr, 0, none⟩) L.length c] :: .box b5 106 #[.int .i64 ↑top, .int .i64 ↑bot] :: os)).set 1 (.lines (.slice A9 n9 c9) ((L.drop top).take (many - k)))) := by rw [set_self (sg h2)]; exact hS
     exact rs_run (v' := .slice A9 n9 c9) (w' := w') (wanted_none rfl) (by simp [execOp, Act.eval, e9, f9, go_sem]) (sp_set 1 (.lines (.slice A9 n9 c9) ((L.drop top).take (many - k))) (by kernel_rfl) (by simp) (by decide) hl hs (by rfl) hSS ⟨A9, n9, c9, rfl⟩)
    exact SSteps.nil
   ·intro vs w' hS hv
    have q0 : vs 0 = _ := hv 0 (by decide)
    have q1 : vs 1 = _ := hv 1 (by decide)
    have q2 : vs 2 = _ := hv 2 (by decide)
    have q3 : vs 3 = _ := hv 3 (by decide)
    have q4 : vs 4 = _ := hv 4 (by decide)
    have q6 : vs 6 = _ := hv 6 (by decide)
    have q7 : vs 7 = _ := hv 7 (by decide)
    have q8 : vs 8 = _ := hv 8 (by decide)
    have q9 : vs 9 = _ := hv 9 (by decide)
    have q10 : vs 10 = _ := hv 10 (by decide)
    obtain ⟨Ag, mg, cg, qg⟩ := (show ∃ A m c, vs 12 = .slice A m c from hv 12 (by decide))
    obtain ⟨As, ms, cs, qs⟩ := (show ∃ A m c, vs 13 = .slice A m c from hv 13 (by decide))
    rw [qg, qs] at hS
    obtain ⟨A1, n1, c1, q1⟩ := (show ∃ A m c, vs 5 = .slice A m c from hv 5 (by decide))
    obtain ⟨A2, n2, c2, q2⟩ := (show ∃ A m c, vs 11 = .slice A m c from hv 11 (by decide))
    have S2 := Lib.hid hS
    simp only [putL, Act.put, Nat.zero_add, Nat.reduceAdd, List.setIfInBounds_toArray, List.set_cons_succ, List.set_cons_zero, q0, q1, q2, q3, q4, q6, q7, q8, q9, q10]
    clear hS hv q0 q1 q2 q3 q4 q6 q7 q8 q9 q10
    simp only [qg, qs, q1, q2]
    have hSl0 : ((L.drop top).take (many - k)).length = many - k := by simp; omega
    have hGl0 : ((L.drop (top + (many - k))).take k).length = k := by simp; omega
    have emg : k = mg := ((show Objs w0 w' (.lines (.slice Ag mg cg) ((L.drop (top + (many - k))).take k) :: _) from S2.out).linesRd' (k := 0) rfl |>.1.trans hGl0).symm
    have ems : ms = many - k := (show Objs w0 w' (_ :: .lines (.slice As ms cs) ((L.drop top).take (many - k)) :: _) from S2.out).linesRd' (k := 1) rfl |>.1.trans hSl0
    subst emg ems
    obtain ⟨St, hSt⟩ : ∃ St, St = (L.drop top).take (many - k) := ⟨_, rfl⟩
    obtain ⟨G, hG⟩ : ∃ G, G = (L.drop (top + (many - k))).take k := ⟨_, rfl⟩
    rw [← hSt] at hSl0
    have hS2 := (show Objs w0 w' (.lines (.slice Ag k cg) G :: .lines (.slice As (many - k) cs) St :: .lines (.slice (some ⟨gr, 0, none⟩) L.length c) L :: .lines vf (rollFresh k cols q) :: .box b7 54 (pv q) :: .box x 33 #[.int .i64 cols, .slice (some ⟨gr, 0, none⟩) L.length c] :: .box b5 106 #[.int .i64 top, .int .i64 bot] :: os) from by rw [hG, hSt]; exact S2.out)
    have HGONE := Lib.hid (show G = rollGone top bot (-(k : Int)) L by rw [hG]; exact rgone_neg hn HMANY.out HKK.out hkm)
    obtain ⟨ls, hls⟩ := get_of (show St.length - 1 < St.length by omega)
    obtain ⟨FS, bS, hFS, -⟩ := hS2.get (k := 1) rfl
    obtain ⟨A9, c9, e9, -, -, -, hg9⟩ := hFS.form
    simp only [Value.slice.injEq] at e9
    obtain ⟨rfl, -, rfl⟩ := e9
    obtain ⟨gs, rfl, hgsz, -, hso, hfz⟩ := hg9 (by omega)
    have hx9 := hso _ _ hls
    have hS3 := hS2.storeSoft (k := 1) (s := false) rfl hls
    rw [show St.set (St.length - 1) (ls.1, false) = lastHard St from (softMod_some hls).symm, hSl0] at hS3
    rw [hSl0] at hx9
    have hpos : (0 : Int) < ((many - k : Nat) : Int) := by omega
    obtain ⟨T, Ts, Tf, ⟨hT, hTs, hTf⟩, hos, hof, hO⟩ := roll_open (show Objs w0 _ (.lines (.slice Ag k cg) G :: .lines (.slice (some ⟨gs, 0, none⟩) (many - k) cs) (lastHard St) :: .lines (.slice (some ⟨gr, 0, none⟩) L.length c) L :: .lines vf (rollFresh k cols q) :: .box b7 54 (pv q) :: .box x 33 #[.int .i64 cols, .slice (some ⟨gr, 0, none⟩) L.length c] :: .box b5 106 #[.int .i64 top, .int .i64 bot] :: os) from hS3)
    have hSl : Ts.length = many - k := by rw [← lnP_length, hTs, lastHard_length]; exact hSl0
    have hFl : Tf.length = k := by rw [← lnP_length, hTf]; simp [rollFresh]
    have hTl : T.length = L.length := by rw [← lnP_length, hT]
    obtain ⟨Af, cf, ef, hcf, -, -, hgf⟩ := hO.headsForm (k := 2) rfl
    rw [hdP_length, hFl] at ef hcf hgf
    obtain ⟨gf, rfl, hgfz, -, -⟩ := hgf hk0
    subst ef
    clear hS3 hg9 hso hFS hls hgf
    have HLEFT := Lib.hid (rleft_neg (T := T) (Ts := Ts) (Tf := Tf) hn HMANY.out htb HKK.out hkm hT (by rw [hTs, hSt]) hTf)
    obtain ⟨vg, wg, hrk, hOk, Ak, mk, ck, hvk⟩ := run_appK hO (k := 1) rfl (ad := ⟨gf, 0, none⟩) (m := k) (c := cf) (ds := hdP Tf) (by rw [hdP_length, hFl]) hk0 (fun i y hy => by have := hO.headsSub (k := 2) (a := 0) (m := k) rfl (by rw [hdP_length]; omega) i y (by rw [List.drop_zero, List.take_of_length_le (by rw [hdP_length]; omega)]; exact hy); rwa [Nat.zero_mul] at this) hof (by rw [hdP_length, hdP_length]; omega) 30
    have HRK := Lib.hid hrk
    have hsz := (show Objs w0 wg (_ :: .heads (.slice (some ⟨gs, 0, none⟩) (many - k) cs) (hdP Ts) :: _) from hOk).headsForm (k := 1) rfl
    obtain ⟨A7, c7, e7, hc7, -, -, -⟩ := hsz
    simp only [Value.slice.injEq] at e7
    obtain ⟨-, -, rfl⟩ := e7
    rw [hdP_length, hSl] at hc7
    obtain ⟨va, wa, hra, hSa, Aa, ca, hva⟩ := run_appH hOk (k := 2) rfl (ad := ⟨gs, 0, none⟩) (m := many - k) (c := cs) (ds := hdP Ts) (by rw [hdP_length, hSl]) hc7 (fun i y hy => by have := hOk.headsSub (k := 1) (a := 0) (m := many - k) rfl (by rw [hdP_length]; omega) i y (by rw [List.drop_zero, List.take_of_length_le (by rw [hdP_length]; omega)]; exact hy); rwa [Nat.zero_mul] at this) hos (by rw [hdP_length, hdP_length]; omega) 30
    rw [hdP_length, hdP_length, hSl, hFl, show k + (many - k) = many by omega] at hva
    subst hva
    obtain ⟨All, hAll⟩ : ∃ All, All = Tf ++ Ts := ⟨_, rfl⟩
    have hAl : All.length = many := by rw [hAll, List.length_append, hFl, hSl]; omega
    rw [← hdP_append, ← hAll] at hSa
    have hPP : (piP Tf ++ piP Ts).Perm (piP All) := by rw [hAll, piP_append]
    have HSLI := Lib.hid (show ∀ y ∈ All, ∃ A n c, y.1 = .slice A n c from fun y hy => (hO.pileForm (k := 5) rfl) (y.1, y.2.1) (List.mem_append.2 (.inr (hPP.mem_iff.2 (List.mem_map.2 ⟨y, hy, rfl⟩)))))
    rw [← hAll] at HLEFT
    clear hAll
    have hSb := (show Objs w0 wa (.heads (.slice (some ⟨gr, 0, none⟩) L.length c) (hdP T) :: .heads (.slice (some ⟨gs, 0, none⟩) (many - k) cs) (hdP Ts) :: .heads (.slice Aa many ca) (hdP All) :: .box x 33 #[.int .i64 cols, .slice (some ⟨gr, 0, none⟩) L.length c] :: .box b5 106 #[.int .i64 top, .int .i64 bot] :: .pile (piP T ++ (piP Tf ++ piP Ts)) :: .lines (.slice Ag k cg) G :: .box b7 54 (pv q) :: os) from hSa).del 1
    have HRA := Lib.hid hra
    obtain ⟨A8, c8, e8, -, -, -, hg8⟩ := (show Objs w0 wa (.heads (.slice (some ⟨gr, 0, none⟩) L.length c) (hdP T) :: .heads (.slice Aa many ca) (hdP All) :: _) from hSb).headsForm (k := 1) rfl
    simp only [Value.slice.injEq] at e8
    obtain ⟨rfl, -, rfl⟩ := e8
    obtain ⟨ga, rfl, -, -, -⟩ := hg8 (by rw [hdP_length]; omega)
    have HPERM := Lib.hid (@rperm T Ts Tf top many All hPP)
    obtain ⟨P, hP⟩ : ∃ P, P = piP T ++ (piP Tf ++ piP Ts) := ⟨_, rfl⟩
    rw [← hP] at HPERM hSb
    obtain ⟨T1, hT1⟩ : ∃ T1, T1 = T.take top := ⟨_, rfl⟩
    obtain ⟨Rr, hRr⟩ : ∃ Rr, Rr = T.drop top := ⟨_, rfl⟩
    have hTT : hdP T = hdP T1 ++ (hdP (All.take 0) ++ hdP (Rr.drop 0)) := by rw [hT1, hRr]; simp [hdP]
    have HT1 := Lib.hid (show T1.length = top by rw [hT1]; simp; omega)
    have HRL := Lib.hid (show Rr.length = L.length - top by rw [hRr]; simp; omega)
    rw [← hT1, ← hRr] at HPERM
    rw [← hT1, ← hRr] at HLEFT
    rw [hTT] at hSb
    have SB := Lib.hid hSb
    have HAL := Lib.hid hAl
    clear hSa hSb hra hrk hOk hO hg8 hP hT1 hRr hTT hPP hS2 hT hTs hTf hos hof hSl hFl hTl hG hSt hcf hSl0 hGl0 hAl SZ
    go_upto_region 21 with (at_builtin; refine wpList_app _ _ (wanted_none rfl) rfl rfl rfl HRK.out ?_)
    go_wp2_with (at_builtin; refine wpList_app _ _ (wanted_none rfl) rfl rfl rfl HRA.out ?_)
    go_loopw [17] (fun vi wr => ∃ d : Nat, d ≤ many ∧ vi = .int .i64 d ∧ Objs w0 wr (.heads (.slice (some ⟨gr, 0, none⟩) L.length c) (hdP T1 ++ (hdP (All.take d) ++ hdP (Rr.drop d))) :: .heads (.slice (some ⟨ga, 0, none⟩) many ca) (hdP All) :: .box x 33 #[.int .i64 cols, .slice (some ⟨gr, 0, none⟩) L.length c] :: .box b5 106 #[.int .i64 top, .int .i64 bot] :: .pile P :: .lines (.slice Ag k cg) G :: .box b7 54 (pv q) :: os)) (fun vi _ => many - (intOf vi).toNat)
    case atStart => exact ⟨0, by omega, rfl, SB.out⟩
    case round =>
     obtain ⟨d, hdm, rfl, hS⟩ := hrel
     have S8 := Lib.hid hS
     clear hS SB
     by_cases hlt : d < many
     case neg =>
      have hX := S8.out
      have hd : d = many := by omega
      rw [hd, List.take_of_length_le (by rw [HAL.out]; exact Nat.le_refl _), ← hdP_append, ← hdP_append] at hX
      have hX2 := roll_shut HPERM.out hX
      obtain ⟨L1, hL1⟩ : ∃ L1, L1 = lnP (T1 ++ (All ++ Rr.drop many)) := ⟨_, rfl⟩
      have HLF := HLEFT
      rw [← hL1] at hX2 HLF
      have hL1l : L1.length = L.length := by rw [hL1, lnP_length]; simp only [List.length_append, List.length_drop]; have := HT1.out; have := HRL.out; have := HAL.out; omega
      have SX := Lib.hid hX2
      obtain ⟨hx5, hf5, hz5⟩ := (hX2.box (k := 2) rfl).facts
      clear hX hX2 hd hL1 S8
      by_cases ht0 : top = 0
      ·have HT0 := Lib.hid (show topHard top L1 = L1 by unfold topHard; rw [if_neg (by omega)])
       have htg : ¬ (0 : Int) < (top : Int) := by omega
       have SF := Lib.hid (fin_roll2 SX.out)
       clear ht0
       go_wp2_with fail
       go_ret
       exact ⟨Ag, k, cg, rfl, by rw [← HGONE.out, ← HLF.out, HT0.out]; exact SF.out⟩
      ·have htg : (0 : Int) < (top : Int) := by omega
       obtain ⟨l9, hlt1⟩ := get_of (show top - 1 < L1.length by omega)
       have HT0 := Lib.hid (show L1.set (top - 1) (l9.1, false) = topHard top L1 by unfold topHard; rw [if_pos (by omega), softMod_some hlt1])
       have HWT := Lib.hid (show IntKind.i64.wrap ((top : Int) - 1) = (top : Int) - 1 from IntWalk.i64_in _ (by omega))
       have htz : (0 : Int) ≤ (top : Int) - 1 := by omega
       have htz2 : (top : Int) - 1 < (L.length : Int) := by omega
       have htz3 : ¬ (top : Int) < 1 := by omega
       have htn : ((top : Int) - 1).toNat = top - 1 := by omega
       have SY := SX
       go_upto_region 27 with (fail)
       refine wp_region_stage (w0 := w0) (os := (.lines (.slice Ag k cg) G :: .box b7 54 (pv q) :: os)) (by kernel_rfl) (by kernel_rfl) (by kernel_rfl) [(0, 9, [], fun vs => .lines (.slice (some ⟨gr, 0, none⟩) L.length c) (L1.set (top - 1) (l9.1, false)))] [[], [], [], [1], [], [2], [], [], [], [0]] [.lines (.slice (some ⟨gr, 0, none⟩) L.length c) L1, .box x 33 #[.int .i64 ↑cols, .slice (some ⟨gr, 0, none⟩) L.length c], .box b5 106 #[.int .i64 ↑top, .int .i64 ↑bot]] (fun i u => match i with | 0 => u = pt x 0 | 1 => u = pt x 0 | 2 => u = pt x 1 | 3 => u = .slice (some ⟨gr, 0, none⟩) L.length c | 4 => u = pt b5 0 | 5 => u = .int .i64 ↑top | 6 => u = .int .i64 (↑top - 1) | 7 => u = pt gr ((top - 1) * 2) | 8 => u = pt gr ((top - 1) * 2 + 1) | 9 => True | _ => True) (fun vs => [.lines (.slice (some ⟨gr, 0, none⟩) L.length c) (L1.set (top - 1) (l9.1, false)), .box x 33 #[.int .i64 ↑cols, .slice (some ⟨gr, 0, none⟩) L.length c], .box b5 106 #[.int .i64 ↑top, .int .i64 ↑bot]]) (by kernel_rfl) (fun vs => by rfl) SY.out ?_ ?_
       ·apply sc
        ·intro a w' vs σ hS hl hs hk
         have f0 : a.tmps[0]?.getD undef = .pointer (some ⟨x, 0, none⟩) := sof hk
         exact rp (pt x 0) (by simp [execOp, Act.eval, f0, go_sem]) hl hs hS
        apply sc
        ·intro a w' vs σ hS hl hs hk
         have f124 : a.tmps[124]?.getD undef = .pointer (some ⟨x, 0, none⟩) := sf hk 0
         exact rp (pt x 0) (by simp [execOp, Act.eval, f124, go_sem]) hl hs hS
        apply sc
        ·intro a w' vs σ hS hl hs hk
         have f125 : a.tmps[125]?.getD undef = .pointer (some ⟨x, 0, none⟩) := sf hk 1
         exact rp (pt x 1) (by simp [execOp, Act.eval, f125, go_sem]) hl hs hS
        apply sc
        ·intro a w' vs σ hS hl hs hk
         have f126 : a.tmps[126]?.getD undef = .pointer (some ⟨x, 1, none⟩) := sf hk 2
         have hx := (hS.box (sg (hs 1 (by decide)))).cell
         exact rp (.slice (some ⟨gr, 0, none⟩) L.length c) (by simp [execOp, Act.eval, f126, go_sem, hx]) hl hs hS
        apply sc
        ·intro a w' vs σ hS hl hs hk
         have f5 : a.tmps[5]?.getD undef = .pointer (some ⟨b5, 0, none⟩) := sof hk
         exact rp (pt b5 0) (by simp [execOp, Act.eval, f5, go_sem]) hl hs hS
        apply sc
        ·intro a w' vs σ hS hl hs hk
         have f128 : a.tmps[128]?.getD undef = .pointer (some ⟨b5, 0, none⟩) := sf hk 4
         have hx := (hS.box (sg (hs 2 (by decide)))).cell
         exact rp (.int .i64 ↑top) (by simp [execOp, Act.eval, f128, go_sem, hx]) hl hs hS
        apply sc
        ·intro a w' vs σ hS hl hs hk
         have f129 : a.tmps[129]?.getD undef = .int .i64 ↑top := sf hk 5
         exact rp (.int .i64 (↑top - 1)) (by simp [execOp, Act.eval, f129, go_sem, HWT.out]) hl hs hS
        apply sc
        ·intro a w' vs σ hS hl hs hk
         have f127 : a.tmps[127]?.getD undef = .slice (some ⟨gr, 0, none⟩) L.length c := sf hk 3
         have f130 : a.tmps[130]?.getD undef = .int .i64 (↑top - 1) := sf hk 6
         exact rp (pt gr ((top - 1) * 2)) (by simp [execOp, Act.eval, f127, f130, go_sem, htz, htz2, htn, htz3]) hl hs hS
        apply sc
        ·intro a w' vs σ hS hl hs hk
         have f131 : a.tmps[131]?.getD undef = .pointer (some ⟨gr, (top - 1) * 2, none⟩) := sf hk 7
         exact rp (pt gr ((top - 1) * 2 + 1)) (by simp [execOp, Act.eval, f131, go_sem]) hl hs hS
        apply sc
        ·intro a w' vs σ hS hl hs hk
         have f132 : a.tmps[132]?.getD undef = .pointer (some ⟨gr, (top - 1) * 2 + 1, none⟩) := sf hk 8
         have h1 : σ[0]? = some (.lines (.slice (some ⟨gr, 0, none⟩) L.length c) L1) := hs 0 (by decide)
         obtain ⟨F9, bs9, hF9, -⟩ := hS.get (sg h1)
         obtain ⟨A9, c9, e9, -, -, -, hg9⟩ := hF9.form
         simp only [Value.slice.injEq] at e9
         obtain ⟨rfl, -, rfl⟩ := e9
         obtain ⟨g9, e9', hz, -, hso, hf⟩ := hg9 (by omega)
         cases e9'
         have hx := hso _ _ hlt1
         exact rstep_store (w2 := w'.setCell ⟨gr, (top - 1) * 2 + 1, none⟩ (.bool false)) (wanted_none rfl) rfl (by simp [execOp, Act.eval, f132, hx, hf, hz, go_sem]) (sp_set 0 (.lines (.slice (some ⟨gr, 0, none⟩) L.length c) (L1.set (top - 1) (l9.1, false))) (by kernel_rfl) (by simp) (by decide) hl hs (by rfl) (hS.storeSoft (sg h1) hlt1) trivial) trivial
        exact SSteps.nil
       ·intro vs w' hS hv
        have q0 : vs 0 = _ := hv 0 (by decide)
        have q1 : vs 1 = _ := hv 1 (by decide)
        have q2 : vs 2 = _ := hv 2 (by decide)
        have q3 : vs 3 = _ := hv 3 (by decide)
        have q4 : vs 4 = _ := hv 4 (by decide)
        have q5 : vs 5 = _ := hv 5 (by decide)
        have q6 : vs 6 = _ := hv 6 (by decide)
        have q7 : vs 7 = _ := hv 7 (by decide)
        have q8 : vs 8 = _ := hv 8 (by decide)
        have S2 := Lib.hid hS
        simp only [putL, Act.put, Nat.zero_add, Nat.reduceAdd, List.setIfInBounds_toArray, List.set_cons_succ, List.set_cons_zero, q0, q1, q2, q3, q4, q5, q6, q7, q8]
        clear hS hv q0 q1 q2 q3 q4 q5 q6 q7 q8
        have S9 := S2.out
        rw [HT0.out] at S9
        have SF := Lib.hid (fin_roll2 S9)
        clear S9 S2
        go_wp2_with fail
        go_ret
        exact ⟨Ag, k, cg, rfl, by rw [← HGONE.out, ← HLF.out]; exact SF.out⟩
     have hdA : d < All.length := by rw [HAL.out]; exact hlt
     have hdR : d < Rr.length := by rw [HRL.out]; omega
     obtain ⟨Ad, nd, cd, hsl⟩ := HSLI.out All[d] (List.getElem_mem hdA)
     have hdz : (0 : Int) ≤ (d : Int) := by omega
     have hdz2 : (d : Int) < (many : Int) := by omega
     have htz : (0 : Int) ≤ (top : Int) + (d : Int) := by omega
     have htz2 : (top : Int) + (d : Int) < (L.length : Int) := by omega
     have htn : ((top : Int) + (d : Int)).toNat = top + d := by omega
     have HWD := Lib.hid (show IntKind.i64.wrap ((top : Int) + (d : Int)) = (top : Int) + (d : Int) from IntWalk.i64_in _ (by omega))
     have HHL := Lib.hid (show (hdP T1 ++ (hdP (All.take d) ++ hdP (Rr.drop d))).length = top + (d + (Rr.length - d)) by simp only [List.length_append, hdP_length, List.length_drop, List.length_take, HT1.out]; omega)
     go_upto_region 25 with (fail)
     refine wp_region_stage (w0 := w0) (os := (.pile P :: .lines (.slice Ag k cg) G :: .box b7 54 (pv q) :: os)) (by kernel_rfl) (by kernel_rfl) (by kernel_rfl) [(0, 13, [], fun vs => .heads (.slice (some ⟨gr, 0, none⟩) L.length c) (List.set (hdP T1 ++ (hdP (All.take d) ++ hdP (Rr.drop d))) (top + d) (All[d].1, All[d].2.2)))] [[], [], [], [2], [], [3], [], [], [], [], [], [1], [], [0]] [.heads (.slice (some ⟨gr, 0, none⟩) L.length c) (hdP T1 ++ (hdP (All.take d) ++ hdP (Rr.drop d))), .heads (.slice (some ⟨ga, 0, none⟩) many ca) (hdP All), .box x 33 #[.int .i64 ↑cols, .slice (some ⟨gr, 0, none⟩) L.length c], .box b5 106 #[.int .i64 ↑top, .int .i64 ↑bot]] (fun i u => match i with | 0 => u = pt x 0 | 1 => u = pt x 0 | 2 => u = pt x 1 | 3 => u = .slice (some ⟨gr, 0, none⟩) L.length c | 4 => u = pt b5 0 | 5 => u = .int .i64 ↑top | 6 => u = .int .i64 ↑d | 7 => u = .int .i64 (↑top + ↑d) | 8 => u = .slice (some ⟨ga, 0, none⟩) many ca | 9 => u = .int .i64 ↑d | 10 => u = pt ga (d * 2) | 11 => u = .agg #[All[d].1, .bool All[d].2.2] | 12 => u = pt gr ((top + d) * 2) | 13 => True | _ => True) (fun vs => [.heads (.slice (some ⟨gr, 0, none⟩) L.length c) (List.set (hdP T1 ++ (hdP (All.take d) ++ hdP (Rr.drop d))) (top + d) (All[d].1, All[d].2.2)), .heads (.slice (some ⟨ga, 0, none⟩) many ca) (hdP All), .box x 33 #[.int .i64 ↑cols, .slice (some ⟨gr, 0, none⟩) L.length c], .box b5 106 #[.int .i64 ↑top, .int .i64 ↑bot]]) (by kernel_rfl) (fun vs => by rfl) S8.out ?_ ?_
     ·apply sc
      ·intro a w' vs σ hS hl hs hk
       have f0 : a.tmps[0]?.getD undef = .pointer (some ⟨x, 0, none⟩) := sof hk
       exact rp (pt x 0) (by simp [execOp, Act.eval, f0, go_sem]) hl hs hS
      apply sc
      ·intro a w' vs σ hS hl hs hk
       have f108 : a.tmps[108]?.getD undef = .pointer (some ⟨x, 0, none⟩) := sf hk 0
       exact rp (pt x 0) (by simp [execOp, Act.eval, f108, go_sem]) hl hs hS
      apply sc
      ·intro a w' vs σ hS hl hs hk
       have f109 : a.tmps[109]?.getD undef = .pointer (some ⟨x, 0, none⟩) := sf hk 1
       exact rp (pt x 1) (by simp [execOp, Act.eval, f109, go_sem]) hl hs hS
      apply sc
      ·intro a w' vs σ hS hl hs hk
       have f110 : a.tmps[110]?.getD undef = .pointer (some ⟨x, 1, none⟩) := sf hk 2
       have hx := (hS.box (sg (hs 2 (by decide)))).cell
       exact rp (.slice (some ⟨gr, 0, none⟩) L.length c) (by simp [execOp, Act.eval, f110, go_sem, hx]) hl hs hS
      apply sc
      ·intro a w' vs σ hS hl hs hk
       have f5 : a.tmps[5]?.getD undef = .pointer (some ⟨b5, 0, none⟩) := sof hk
       exact rp (pt b5 0) (by simp [execOp, Act.eval, f5, go_sem]) hl hs hS
      apply sc
      ·intro a w' vs σ hS hl hs hk
       have f112 : a.tmps[112]?.getD undef = .pointer (some ⟨b5, 0, none⟩) := sf hk 4
       have hx := (hS.box (sg (hs 3 (by decide)))).cell
       exact rp (.int .i64 ↑top) (by simp [execOp, Act.eval, f112, go_sem, hx]) hl hs hS
      apply sc
      ·intro a w' vs σ hS hl hs hk
       have f17 : a.tmps[17]?.getD undef = .int .i64 ↑d := sof hk
       exact rp (.int .i64 ↑d) (by simp [execOp, Act.eval, f17, go_sem]) hl hs hS
      apply sc
      ·intro a w' vs σ hS hl hs hk
       have f113 : a.tmps[113]?.getD undef = .int .i64 ↑top := sf hk 5
       have f114 : a.tmps[114]?.getD undef = .int .i64 ↑d := sf hk 6
       exact rp (.int .i64 (↑top + ↑d)) (by simp [execOp, Act.eval, f113, f114, go_sem, HWD.out]) hl hs hS
      apply sc
      ·intro a w' vs σ hS hl hs hk
       have f16 : a.tmps[16]?.getD undef = .slice (some ⟨ga, 0, none⟩) many ca := sof hk
       exact rp (.slice (some ⟨ga, 0, none⟩) many ca) (by simp [execOp, Act.eval, f16, go_sem]) hl hs hS
      apply sc
      ·intro a w' vs σ hS hl hs hk
       have f17 : a.tmps[17]?.getD undef = .int .i64 ↑d := sof hk
       exact rp (.int .i64 ↑d) (by simp [execOp, Act.eval, f17, go_sem]) hl hs hS
      apply sc
      ·intro a w' vs σ hS hl hs hk
       have f116 : a.tmps[116]?.getD undef = .slice (some ⟨ga, 0, none⟩) many ca := sf hk 8
       have f117 : a.tmps[117]?.getD undef = .int .i64 ↑d := sf hk 9
       exact rp (pt ga (d * 2)) (by simp [execOp, Act.eval, f116, f117, go_sem, hdz, hdz2]) hl hs hS
      apply sc
      ·intro a w' vs σ hS hl hs hk
       have f118 : a.tmps[118]?.getD undef = .pointer (some ⟨ga, d * 2, none⟩) := sf hk 10
       have h1 : σ[1]? = some (.heads (.slice (some ⟨ga, 0, none⟩) many ca) (hdP All)) := hs 1 (by decide)
       obtain ⟨A8, c8, e8, -, -, -, hg8⟩ := hS.headsForm (sg h1)
       simp only [Value.slice.injEq] at e8
       obtain ⟨rfl, -, rfl⟩ := e8
       obtain ⟨g8, e9, hz, hcs, hf⟩ := hg8 (by rw [hdP_length]; omega)
       cases e9
       obtain ⟨hx, hx'⟩ := hcs d (All[d].1, All[d].2.2) (by simp [hdP, hdA])
       exact ro_pure (v := .agg #[All[d].1, .bool All[d].2.2]) (wanted_none rfl) (by simp [execOp, Act.eval, f118, hx, hx', go_sem]) (sp_same (by kernel_rfl) hl hs hS rfl) trivial
      apply sc
      ·intro a w' vs σ hS hl hs hk
       have f111 : a.tmps[111]?.getD undef = .slice (some ⟨gr, 0, none⟩) L.length c := sf hk 3
       have f115 : a.tmps[115]?.getD undef = .int .i64 (↑top + ↑d) := sf hk 7
       exact rp (pt gr ((top + d) * 2)) (by simp [execOp, Act.eval, f111, f115, go_sem, htz, htz2, htn]) hl hs hS
      apply sc
      ·intro a w' vs σ hS hl hs hk
       have f120 : a.tmps[120]?.getD undef = .pointer (some ⟨gr, (top + d) * 2, none⟩) := sf hk 12
       have f119 : a.tmps[119]?.getD undef = .agg #[All[d].1, .bool All[d].2.2] := sf hk 11
       have h1 : σ[0]? = some (.heads (.slice (some ⟨gr, 0, none⟩) L.length c) (hdP T1 ++ (hdP (All.take d) ++ hdP (Rr.drop d)))) := hs 0 (by decide)
       obtain ⟨A8, c8, e8, -, -, -, hg8⟩ := hS.headsForm (sg h1)
       simp only [Value.slice.injEq] at e8
       obtain ⟨rfl, -, rfl⟩ := e8
       have hHl := HHL.out
       obtain ⟨g8, e9, hz, hcs, hf⟩ := hg8 (by omega)
       cases e9
       obtain ⟨x8, hx8⟩ := get_of (show top + d < (hdP T1 ++ (hdP (All.take d) ++ hdP (Rr.drop d))).length by omega)
       obtain ⟨hx, hx'⟩ := hcs (top + d) x8 hx8
       exact rstep_store (w2 := (w'.setCell ⟨gr, (top + d) * 2, none⟩ All[d].1).setCell ⟨gr, (top + d) * 2 + 1, none⟩ (.bool All[d].2.2)) (wanted_none rfl) rfl (by simp [execOp, Act.eval, f120, f119, hsl, hx, hx', hf, hz, go_sem]) (sp_set 0 (.heads (.slice (some ⟨gr, 0, none⟩) L.length c) (List.set (hdP T1 ++ (hdP (All.take d) ++ hdP (Rr.drop d))) (top + d) (All[d].1, All[d].2.2))) (by kernel_rfl) (by simp) (by decide) hl hs (by rfl) (hS.storeHead (sg h1)) trivial) trivial
      exact SSteps.nil
     ·intro vs w' hS hv
      have q0 : vs 0 = _ := hv 0 (by decide)
      have q1 : vs 1 = _ := hv 1 (by decide)
      have q2 : vs 2 = _ := hv 2 (by decide)
      have q3 : vs 3 = _ := hv 3 (by decide)
      have q4 : vs 4 = _ := hv 4 (by decide)
      have q5 : vs 5 = _ := hv 5 (by decide)
      have q6 : vs 6 = _ := hv 6 (by decide)
      have q7 : vs 7 = _ := hv 7 (by decide)
      have q8 : vs 8 = _ := hv 8 (by decide)
      have q9 : vs 9 = _ := hv 9 (by decide)
      have q10 : vs 10 = _ := hv 10 (by decide)
      have q11 : vs 11 = _ := hv 11 (by decide)
      have q12 : vs 12 = _ := hv 12 (by decide)
      have S2 := Lib.hid hS
      simp only [putL, Act.put, Nat.zero_add, Nat.reduceAdd, List.setIfInBounds_toArray, List.set_cons_succ, List.set_cons_zero, q0, q1, q2, q3, q4, q5, q6, q7, q8, q9, q10, q11, q12]
      clear hS hv q0 q1 q2 q3 q4 q5 q6 q7 q8 q9 q10 q11 q12
      have S9 := S2.out
      rw [hdP_fill All[d].1 All[d].2.1 All[d].2.2 HT1.out (by rw [List.length_take]; omega) hdR, show All.take d ++ [(All[d].1, All[d].2.1, All[d].2.2)] = All.take (d + 1) from (List.take_succ_eq_append_getElem hdA).symm] at S9
      have S10 := Lib.hid S9
      clear S9 S2
      go_wp2_with fail
      go_roundw
      case rel => exact ⟨d + 1, by omega, by go_num, S10.out⟩
      case measure => simp [intOf]; omega
 ·subst h2
  have hnl : ¬ -(k : Int) < n := by omega
  have hngt : ¬ (0 : Int) < n := by omega
  have hmi := HMI.out
  go_wp2_with fail
  go_loopw [11, 12] (fun u11 vi wr => ∃ (d : Nat) (vf : Value), d ≤ k ∧ vf = u11 ∧ vi = .int .i64 d ∧ Objs w0 wr (.lines vf (rollFresh d cols q) :: .box b7 54 (pv q) :: .box x 33 #[.int .i64 cols, .slice (some ⟨gr, 0, none⟩) L.length c] :: .lines (.slice (some ⟨gr, 0, none⟩) L.length c) L :: .box b5 106 #[.int .i64 top, .int .i64 bot] :: os)) (fun _ vi _ => k - (intOf vi).toNat)
  case atStart => exact ⟨0, _, by omega, rfl, rfl, S1.out⟩
  case round =>
   obtain ⟨d, vf, hdk, rfl, rfl, hS⟩ := hrel
   have S2 := Lib.hid hS
   clear hS S1
   by_cases hlt : d < k
   ·have SZ := Lib.hid S2.out.pad.pad
    clear S2
    go_upto_region 11 with (fail)
    refine wp_region_stage (w0 := w0) (os := (.lines (.slice (some ⟨gr, 0, none⟩) L.length c) L :: .box b5 106 #[.int .i64 ↑top, .int .i64 ↑bot] :: os)) (by kernel_rfl) (by kernel_rfl) (by kernel_rfl) [(0, 6, [6], fun vs => .cells (lineV (vs 6)) (List.replicate cols (blank q))), (1, 7, [6, 7], fun vs => .box (blkOf (vs 7)) 39 #[lineV (vs 6), .bool false]), (2, 8, [8], fun vs => .lines (vs 8) (rollFresh (d + 1) cols q)), (0, 8, [], fun vs => .none), (2, 9, [9], fun vs => .lines (vs 9) (rollFresh (d + 1) cols q))] [[], [], [], [], [4], [3], [0], [1], [0, 1, 2], [2]] [.none, .none, .lines vf (rollFresh d cols q), .box b7 54 (pv q), .box x 33 #[.int .i64 ↑cols, .slice (some ⟨gr, 0, none⟩) L.length c]] (fun i u => match i with | 0 => u = (vf : Value) | 1 => u = pt x 0 | 2 => u = pt x 0 | 3 => u = pt x 0 | 4 => u = .int .i64 ↑cols | 5 => u = .agg (pv q) | 6 => ∃ y, u = .agg #[y, .bool false] | 7 => ∃ g, u = .slice (some ⟨g, 0, none⟩) 1 1 | 8 => ∃ A m c, u = .slice A m c | 9 => ∃ A m c, u = .slice A m c | _ => True) (fun vs => [.none, .box (blkOf (vs 7)) 39 #[lineV (vs 6), .bool false], .lines (vs 9) (rollFresh (d + 1) cols q), .box b7 54 (pv q), .box x 33 #[.int .i64 ↑cols, .slice (some ⟨gr, 0, none⟩) L.length c]]) (by kernel_rfl) (fun vs => by rfl) SZ.out ?_ ?_
    ·apply sc
     ·intro a w' vs σ hS hl hs hk
      have e11 : a.tmps.getD 11 undef = (vf : Value) := (sk_later hk 9 (by kernel_rfl) rfl rfl).trans rfl
      have f11 := gd e11
      exact rp vf (by simp [execOp, Act.eval, e11, f11, go_sem]) hl hs hS
     apply sc
     ·intro a w' vs σ hS hl hs hk
      have f0 : a.tmps[0]?.getD undef = .pointer (some ⟨x, 0, none⟩) := sof hk
      exact rp (pt x 0) (by simp [execOp, Act.eval, f0, go_sem]) hl hs hS
     apply sc
     ·intro a w' vs σ hS hl hs hk
      have f46 : a.tmps[46]?.getD undef = .pointer (some ⟨x, 0, none⟩) := sf hk 1
      exact rp (pt x 0) (by simp [execOp, Act.eval, f46, go_sem]) hl hs hS
     apply sc
     ·intro a w' vs σ hS hl hs hk
      have f47 : a.tmps[47]?.getD undef = .pointer (some ⟨x, 0, none⟩) := sf hk 2
      exact rp (pt x 0) (by simp [execOp, Act.eval, f47, go_sem]) hl hs hS
     apply sc
     ·intro a w' vs σ hS hl hs hk
      have f48 : a.tmps[48]?.getD undef = .pointer (some ⟨x, 0, none⟩) := sf hk 3
      have hx := (hS.box (sg (hs 4 (by decide)))).cell
      exact rp (.int .i64 ↑cols) (by simp [execOp, Act.eval, f48, go_sem, hx]) hl hs hS
     apply sc
     ·intro a w' vs σ hS hl hs hk
      have f7 : a.tmps[7]?.getD undef = .pointer (some ⟨b7, 0, none⟩) := sof hk
      have hx := (hS.box (sg (hs 3 (by decide)))).penAt
      exact rp (.agg (pv q)) (by simp [execOp, Act.eval, f7, go_sem, hx]) hl hs hS
     apply sc
     ·intro a w' vs σ hS hl hs hk
      have e49 : a.tmps.getD 49 undef = .int .i64 ↑cols := sv hk 4
      have e50 : a.tmps.getD 50 undef = .agg (pv q) := sv hk 5
      have h0 : σ[0]? = some .none := hs 0 (by decide)
      exact ro_call (f := 59) (wanted_none rfl) rfl (by simp only [List.map_toArray, List.map_cons, List.map_nil, Act.eval, e49, e50] <;> rfl) (fun _ _ => by kernel_rfl) ((r14Blanks_any cols (by omega) q w0 w' _ hS).mono fun e w2 ⟨y, h1, h2⟩ => ⟨_, h1, sp_set 0 (.cells y (List.replicate cols (blank q))) (by kernel_rfl) (by simp) (by decide) hl hs (by rfl) (h2.place (sg h0)) ⟨y, rfl⟩, trivial⟩)
     apply sc
     ·intro a w' vs σ hS hl hs hk
      have e51 : a.tmps.getD 51 undef = vs 6 := sk_val hk 6 (by kernel_rfl) rfl rfl
      have p51 : (fun u : Value => ∃ y, u = .agg #[y, .bool false]) (vs 6) := (hk.1 6 (by kernel_rfl)).1
      obtain ⟨y, hx⟩ := p51
      have e9 := e51.trans hx
      have f9 := gd e9
      have h1 : σ[1]? = some .none := hs 1 (by decide)
      exact rs_run (wanted_none rfl) (exec_bsl rfl (by simp [Act.eval, e9, f9]) (run_bsl y false w')) (sp_set 1 (.box w'.heap.size 39 #[y, .bool false]) (by kernel_rfl) (by simp) (by decide) hl hs (by show Ob.box (blkOf (.slice (some ⟨w'.heap.size, 0, none⟩) 1 1)) 39 #[lineV (vs 6), .bool false] = _; rw [hx]; rfl) (hS.alloc1.place (sg h1)) ⟨_, rfl⟩)
     apply sc
     ·intro a w' vs σ hS hl hs hk
      have e45 : a.tmps.getD 45 undef = (vf : Value) := sv hk 0
      have e52 : a.tmps.getD 52 undef = vs 7 := sk_val hk 7 (by kernel_rfl) rfl rfl
      have p52 : (fun u : Value => ∃ g, u = .slice (some ⟨g, 0, none⟩) 1 1) (vs 7) := (hk.1 7 (by kernel_rfl)).1
      have h2 : σ[2]? = some (.lines vf (rollFresh d cols q)) := hs 2 (by decide)
      have h0 : σ[0]? = some (.cells (lineV (vs 6)) (List.replicate cols (blank q))) := hs 0 (by decide)
      have h1 : σ[1]? = some (.box (blkOf (vs 7)) 39 #[lineV (vs 6), .bool false]) := hs 1 (by decide)
      obtain ⟨g8, hg8⟩ := p52
      rw [hg8, show blkOf (.slice (some ⟨g8, 0, none⟩) 1 1) = g8 from rfl] at h1
      obtain ⟨v9, w9, hr, hS2, A9, c9, hv9⟩ := run_appL hS (k := 2) (j := 0) (ad := ⟨g8, 0, none⟩) (c := 1) (s := false) (sg h2) (sg h0) (by decide) (by rw [(hS.box (sg h1)).cell]; rfl) (by rw [add_at, (hS.box (sg h1)).cell]; rfl) (by simp [rollFresh]; omega) 30
      rw [show rollFresh d cols q ++ [((List.replicate cols (blank q)), false)] = (rollFresh (d + 1) cols q) from (List.replicate_succ' ..).symm] at hS2
      exact rs_run (wanted_none rfl) (exec_app rfl (by simp only [Act.eval]; exact e45) (by simp only [Act.eval]; exact e52.trans hg8) hr) (sp_set2 2 0 (.lines v9 (rollFresh (d + 1) cols q)) .none (by decide) (by kernel_rfl) (by simp) (by simp) (by decide) (by decide) hl hs (by rfl) (by rfl) hS2 ⟨A9, _, c9, hv9⟩)
     apply sc
     ·intro a w' vs σ hS hl hs hk
      have e53 : a.tmps.getD 53 undef = vs 8 := sk_val hk 8 (by kernel_rfl) rfl rfl
      have p53 : (fun u : Value => ∃ A m c, u = .slice A m c) (vs 8) := (hk.1 8 (by kernel_rfl)).1
      obtain ⟨A9, n9, c9, q9⟩ := p53
      have e9 := e53.trans q9
      have f9 := gd e9
      have h2 : σ[2]? = some (.lines (vs 8) (rollFresh (d + 1) cols q)) := hs 2 (by decide)
      rw [q9] at h2
      have hSS : Objs w0 w' ((σ ++ (.lines (.slice (some ⟨gr, 0, none⟩) L.length c) L :: .box b5 106 #[.int .i64 ↑top, .int .i64 ↑bot] :: os)).set 2 (.lines (.slice A9 n9 c9) (rollFresh (d + 1) cols q))) := by rw [set_self (sg h2)]; exact hS
      exact rs_run (v' := .slice A9 n9 c9) (w' := w') (wanted_none rfl) (by simp [execOp, Act.eval, e9, f9, go_sem]) (sp_set 2 (.lines (.slice A9 n9 c9) (rollFresh (d + 1) cols q)) (by kernel_rfl) (by simp) (by decide) hl hs (by rfl) hSS ⟨A9, n9, c9, rfl⟩)
     exact SSteps.nil
    ·intro vs w' hS hv
     have q0 : vs 0 = _ := hv 0 (by decide)
     have q1 : vs 1 = _ := hv 1 (by decide)
     have q2 : vs 2 = _ := hv 2 (by decide)
     have q3 : vs 3 = _ := hv 3 (by decide)
     have q4 : vs 4 = _ := hv 4 (by decide)
     have q5 : vs 5 = _ := hv 5 (by decide)
     have S2 := Lib.hid hS
     simp only [putL, Act.put, Nat.zero_add, Nat.reduceAdd, List.setIfInBounds_toArray, List.set_cons_succ, List.set_cons_zero, q0, q1, q2, q3, q4, q5]
     clear hS hv q0 q1 q2 q3 q4 q5
     go_wp2_with fail
     go_roundw
     case rel => exact ⟨d + 1, vs 9, by omega, rfl, by go_num, (S2.out.del 0).del 0⟩
     case measure => simp [intOf]; omega
   obtain rfl : k = d := by omega
   have S3 := Lib.hid (ord_b S2.out)
   obtain ⟨hxx, hfx, hzx⟩ := (S3.out.box (k := 3) rfl).facts
   clear hx5 hf5 hz5
   obtain ⟨hx5, hf5, hz5⟩ := (S3.out.box (k := 4) rfl).facts
   clear S2
   go_wp2_with fail
   refine wp_region_below (by kernel_rfl) (by kernel_rfl) ?_
   repeat (go_big_quiet_step (fail))
   refine wpQuiet_nil ?_
   intro w2 hb2
   have SZ := Lib.hid (S3.out.bel hb2).pad.pad
   clear hxx hfx hzx hx5 hf5 hz5 S3 hb2
   simp only [HBI.out]
   have hkz : (0 : Int) ≤ (k : Int) := by omega
   have hkz2 : (k : Int) ≤ (k : Int) := by omega
   have HW0 := Lib.hid (show IntKind.i64.wrap 0 = 0 from IntWalk.i64_in _ (by omega))
   have hkz3 : k ≤ c - top := by omega
   go_wp2_with fail
   refine wp_region_stage (w0 := w0) (os := (.lines vf (rollFresh k cols q) :: .box b7 54 (pv q) :: .box x 33 #[.int .i64 ↑cols, .slice (some ⟨gr, 0, none⟩) L.length c] :: .box b5 106 #[.int .i64 ↑top, .int .i64 ↑bot] :: os)) (by kernel_rfl) (by kernel_rfl) (by kernel_rfl) [(0, 5, [5], fun vs => .lines (vs 5) ((L.drop top).take k)), (1, 11, [11], fun vs => .lines (vs 11) ([] : List Ln)), (0, 12, [12], fun vs => .lines (vs 12) ((L.drop top).take k)), (1, 13, [13], fun vs => .lines (vs 13) ([] : List Ln))] [[], [], [], [], [], [0, 2], [], [], [], [], [], [1, 2], [0], [1]] [.none, .none, .lines (.slice (some ⟨gr, 0, none⟩) L.length c) L] (fun i u => match i with | 0 => u = .slice (some ⟨gr, top * 2, none⟩) k (c - top) | 1 => u = .int .i64 ↑k | 2 => u = .int .i64 ↑k | 3 => u = .int .i64 0 | 4 => u = .slice (some ⟨gr, top * 2, none⟩) k (c - top) | 5 => ∃ A m c, u = .slice A m c | 6 => u = .slice (some ⟨gr, top * 2, none⟩) k (c - top) | 7 => u = .int .i64 ↑k | 8 => u = .int .i64 ↑k | 9 => u = .int .i64 0 | 10 => u = .slice (some ⟨gr, top * 2, none⟩) 0 (c - top) | 11 => ∃ A m c, u = .slice A m c | 12 => ∃ A m c, u = .slice A m c | 13 => ∃ A m c, u = .slice A m c | _ => True) (fun vs => [.lines (vs 12) ((L.drop top).take k), .lines (vs 13) ([] : List Ln), .lines (.slice (some ⟨gr, 0, none⟩) L.length c) L]) (by kernel_rfl) (fun vs => by rfl) SZ.out ?_ ?_
   ·apply sc
    ·intro a w' vs σ hS hl hs hk
     have f13 : a.tmps[13]?.getD undef = .slice (some ⟨gr, top * 2, none⟩) k (c - top) := sof hk
     exact rp (.slice (some ⟨gr, top * 2, none⟩) k (c - top)) (by simp [execOp, Act.eval, f13, go_sem]) hl hs hS
    apply sc
    ·intro a w' vs σ hS hl hs hk
     have f9 : a.tmps[9]?.getD undef = .int .i64 ↑k := sof hk
     exact rp (.int .i64 ↑k) (by simp [execOp, Act.eval, f9, go_sem]) hl hs hS
    apply sc
    ·intro a w' vs σ hS hl hs hk
     have f10 : a.tmps[10]?.getD undef = .int .i64 ↑k := sof hk
     exact rp (.int .i64 ↑k) (by simp [execOp, Act.eval, f10, go_sem]) hl hs hS
    apply sc
    ·intro a w' vs σ hS hl hs hk
     have f75 : a.tmps[75]?.getD undef = .int .i64 ↑k := sf hk 1
     have f76 : a.tmps[76]?.getD undef = .int .i64 ↑k := sf hk 2
     exact rp (.int .i64 0) (by simp [execOp, Act.eval, f75, f76, go_sem, HW0.out]) hl hs hS
    apply sc
    ·intro a w' vs σ hS hl hs hk
     have f74 : a.tmps[74]?.getD undef = .slice (some ⟨gr, top * 2, none⟩) k (c - top) := sf hk 0
     have f77 : a.tmps[77]?.getD undef = .int .i64 0 := sf hk 3
     exact rp (.slice (some ⟨gr, top * 2, none⟩) k (c - top)) (by simp [execOp, Act.eval, f74, f77, go_sem, hkz, hkz2, hkz3]) hl hs hS
    apply sc
    ·intro a w' vs σ hS hl hs hk
     have e78 : a.tmps.getD 78 undef = .slice (some ⟨gr, top * 2, none⟩) k (c - top) := sv hk 4
     have hn : σ[0]? = some .none := hs 0 (by decide)
     have h2 : σ[2]? = some (.lines (.slice (some ⟨gr, 0, none⟩) L.length c) L) := hs 2 (by decide)
     have hrl := (hS.linesRd' (sg h2)).2.2
     exact ro_call (f := 24) (wanted_none rfl) rfl (by simp only [List.map_toArray, List.map_cons, List.map_nil, Act.eval, e78] <;> rfl) (fun _ _ => by kernel_rfl) ((copies_at (L := ((L.drop top).take k)) (by simp; omega) (hrl.part0 (by omega) (by omega)) (by simp; omega) (fun l hl => HMILL.out l (List.mem_of_mem_drop (List.mem_of_mem_take hl)))).mono fun e w2 ⟨y, h1, h2⟩ => ⟨_, h1, sp_set 0 (.lines y ((L.drop top).take k)) (by kernel_rfl) (by simp) (by decide) hl hs (by rfl) ((hS.nest h2).place (sg hn)) (by obtain ⟨A, c, e, -⟩ := h2.linesRd (k := 0) rfl; exact ⟨A, _, c, e⟩), trivial⟩)
    apply sc
    ·intro a w' vs σ hS hl hs hk
     have f13 : a.tmps[13]?.getD undef = .slice (some ⟨gr, top * 2, none⟩) k (c - top) := sof hk
     exact rp (.slice (some ⟨gr, top * 2, none⟩) k (c - top)) (by simp [execOp, Act.eval, f13, go_sem]) hl hs hS
    apply sc
    ·intro a w' vs σ hS hl hs hk
     have f9 : a.tmps[9]?.getD undef = .int .i64 ↑k := sof hk
     exact rp (.int .i64 ↑k) (by simp [execOp, Act.eval, f9, go_sem]) hl hs hS
    apply sc
    ·intro a w' vs σ hS hl hs hk
     have f10 : a.tmps[10]?.getD undef = .int .i64 ↑k := sof hk
     exact rp (.int .i64 ↑k) (by simp [execOp, Act.eval, f10, go_sem]) hl hs hS
    apply sc
    ·intro a w' vs σ hS hl hs hk
     have f81 : a.tmps[81]?.getD undef = .int .i64 ↑k := sf hk 7
     have f82 : a.tmps[82]?.getD undef = .int .i64 ↑k := sf hk 8
     exact rp (.int .i64 0) (by simp [execOp, Act.eval, f81, f82, go_sem, HW0.out]) hl hs hS
    apply sc
    ·intro a w' vs σ hS hl hs hk
     have f80 : a.tmps[80]?.getD undef = .slice (some ⟨gr, top * 2, none⟩) k (c - top) := sf hk 6
     have f83 : a.tmps[83]?.getD undef = .int .i64 0 := sf hk 9
     exact rp (.slice (some ⟨gr, top * 2, none⟩) 0 (c - top)) (by simp [execOp, Act.eval, f80, f83, go_sem, hkz, hkz2, hkz3]) hl hs hS
    apply sc
    ·intro a w' vs σ hS hl hs hk
     have e84 : a.tmps.getD 84 undef = .slice (some ⟨gr, top * 2, none⟩) 0 (c - top) := sv hk 10
     have hn : σ[1]? = some .none := hs 1 (by decide)
     have h2 : σ[2]? = some (.lines (.slice (some ⟨gr, 0, none⟩) L.length c) L) := hs 2 (by decide)
     have hrl := (hS.linesRd' (sg h2)).2.2
     exact ro_call (f := 24) (wanted_none rfl) rfl (by simp only [List.map_toArray, List.map_cons, List.map_nil, Act.eval, e84] <;> rfl) (fun _ _ => by kernel_rfl) ((copies_at (L := ([] : List Ln)) rfl (RdL.empty _ _ _) (by simp) (fun l hl => by simp at hl)).mono fun e w2 ⟨y, h1, h2⟩ => ⟨_, h1, sp_set 1 (.lines y ([] : List Ln)) (by kernel_rfl) (by simp) (by decide) hl hs (by rfl) ((hS.nest h2).place (sg hn)) (by obtain ⟨A, c, e, -⟩ := h2.linesRd (k := 0) rfl; exact ⟨A, _, c, e⟩), trivial⟩)
    apply sc
    ·intro a w' vs σ hS hl hs hk
     have e79 : a.tmps.getD 79 undef = vs 5 := sk_val hk 5 (by kernel_rfl) rfl rfl
     have p79 : (fun u : Value => ∃ A m c, u = .slice A m c) (vs 5) := (hk.1 5 (by kernel_rfl)).1
     obtain ⟨A9, n9, c9, q9⟩ := p79
     have e9 := e79.trans q9
     have f9 := gd e9
     have h2 : σ[0]? = some (.lines (vs 5) ((L.drop top).take k)) := hs 0 (by decide)
     rw [q9] at h2
     have hSS : Objs w0 w' ((σ ++ (.lines vf (rollFresh k cols q) :: .box b7 54 (pv q) :: .box x 33 #[.int .i64 ↑cols, .slice (some ⟨gr, 0, none⟩) L.length c] :: .box b5 106 #[.int .i64 ↑top, .int .i64 ↑bot] :: os)).set 0 (.lines (.slice A9 n9 c9) ((L.drop top).take k))) := by rw [set_self (sg h2)]; exact hS
     exact rs_run (v' := .slice A9 n9 c9) (w' := w') (wanted_none rfl) (by simp [execOp, Act.eval, e9, f9, go_sem]) (sp_set 0 (.lines (.slice A9 n9 c9) ((L.drop top).take k)) (by kernel_rfl) (by simp) (by decide) hl hs (by rfl) hSS ⟨A9, n9, c9, rfl⟩)
    apply sc
    ·intro a w' vs σ hS hl hs hk
     have e85 : a.tmps.getD 85 undef = vs 11 := sk_val hk 11 (by kernel_rfl) rfl rfl
     have p85 : (fun u : Value => ∃ A m c, u = .slice A m c) (vs 11) := (hk.1 11 (by kernel_rfl)).1
     obtain ⟨A9, n9, c9, q9⟩ := p85
     have e9 := e85.trans q9
     have f9 := gd e9
     have h2 : σ[1]? = some (.lines (vs 11) ([] : List Ln)) := hs 1 (by decide)
     rw [q9] at h2
     have hSS : Objs w0 w' ((σ ++ (.lines vf (rollFresh k cols q) :: .box b7 54 (pv q) :: .box x 33 #[.int .i64 ↑cols, .slice (some ⟨gr, 0, none⟩) L.length c] :: .box b5 106 #[.int .i64 ↑top, .int .i64 ↑bot] :: os)).set 1 (.lines (.slice A9 n9 c9) ([] : List Ln))) := by rw [set_self (sg h2)]; exact hS
     exact rs_run (v' := .slice A9 n9 c9) (w' := w') (wanted_none rfl) (by simp [execOp, Act.eval, e9, f9, go_sem]) (sp_set 1 (.lines (.slice A9 n9 c9) ([] : List Ln)) (by kernel_rfl) (by simp) (by decide) hl hs (by rfl) hSS ⟨A9, n9, c9, rfl⟩)
    exact SSteps.nil
   ·intro vs w' hS hv
    have q0 : vs 0 = _ := hv 0 (by decide)
    have q1 : vs 1 = _ := hv 1 (by decide)
    have q2 : vs 2 = _ := hv 2 (by decide)
    have q3 : vs 3 = _ := hv 3 (by decide)
    have q4 : vs 4 = _ := hv 4 (by decide)
    have q6 : vs 6 = _ := hv 6 (by decide)
    have q7 : vs 7 = _ := hv 7 (by decide)
    have q8 : vs 8 = _ := hv 8 (by decide)
    have q9 : vs 9 = _ := hv 9 (by decide)
    have q10 : vs 10 = _ := hv 10 (by decide)
    obtain ⟨Ag, mg, cg, qg⟩ := (show ∃ A m c, vs 12 = .slice A m c from hv 12 (by decide))
    obtain ⟨As, ms, cs, qs⟩ := (show ∃ A m c, vs 13 = .slice A m c from hv 13 (by decide))
    rw [qg, qs] at hS
    obtain ⟨A1, n1, c1, q1⟩ := (show ∃ A m c, vs 5 = .slice A m c from hv 5 (by decide))
    obtain ⟨A2, n2, c2, q2⟩ := (show ∃ A m c, vs 11 = .slice A m c from hv 11 (by decide))
    have S2 := Lib.hid hS
    simp only [putL, Act.put, Nat.zero_add, Nat.reduceAdd, List.setIfInBounds_toArray, List.set_cons_succ, List.set_cons_zero, q0, q1, q2, q3, q4, q6, q7, q8, q9, q10]
    clear hS hv q0 q1 q2 q3 q4 q6 q7 q8 q9 q10
    simp only [qg, qs, q1, q2]
    have hGl0 : ((L.drop top).take k).length = k := by simp; omega
    have emg : k = mg := ((show Objs w0 w' (.lines (.slice Ag mg cg) ((L.drop top).take k) :: _) from S2.out).linesRd' (k := 0) rfl |>.1.trans hGl0).symm
    have ems : ms = 0 := (show Objs w0 w' (_ :: .lines (.slice As ms cs) ([] : List Ln) :: _) from S2.out).linesRd' (k := 1) rfl |>.1
    subst emg ems
    obtain ⟨G, hG⟩ : ∃ G, G = (L.drop top).take k := ⟨_, rfl⟩
    have hS2 := (show Objs w0 w' (.lines (.slice Ag k cg) G :: .lines (.slice As 0 cs) [] :: .lines (.slice (some ⟨gr, 0, none⟩) L.length c) L :: .lines vf (rollFresh k cols q) :: .box b7 54 (pv q) :: .box x 33 #[.int .i64 cols, .slice (some ⟨gr, 0, none⟩) L.length c] :: .box b5 106 #[.int .i64 top, .int .i64 bot] :: os) from by rw [hG]; exact S2.out)
    have HGONE := Lib.hid (show G = rollGone top bot n L by rw [hG]; have := @rgone_neg L top bot k k n hn HMANY.out HKK.out hkm; rw [Nat.sub_self, Nat.add_zero] at this; exact this)
    obtain ⟨T, Ts, Tf, ⟨hT, hTs, hTf⟩, hos, hof, hO⟩ := roll_open hS2
    have hSl : Ts.length = 0 := by rw [← lnP_length, hTs]; rfl
    have hFl : Tf.length = k := by rw [← lnP_length, hTf]; simp [rollFresh]
    have hTl : T.length = L.length := by rw [← lnP_length, hT]
    obtain ⟨Af, cf, ef, hcf, -, -, hgf⟩ := hO.headsForm (k := 2) rfl
    rw [hdP_length, hFl] at ef hcf hgf
    obtain ⟨gf, rfl, hgfz, -, -⟩ := hgf hk0
    subst ef
    clear hgf
    have HLEFT := Lib.hid (rleft_neg (T := T) (Ts := Ts) (Tf := Tf) hn HMANY.out htb HKK.out hkm hT (by rw [hTs, Nat.sub_self]; simp [lastHard, softMod]) hTf)
    obtain ⟨vg, wg, hrk, hOk, Ak, mk, ck, hvk⟩ := run_appK hO (k := 1) rfl (ad := ⟨gf, 0, none⟩) (m := k) (c := cf) (ds := hdP Tf) (by rw [hdP_length, hFl]) hk0 (fun i y hy => by have := hO.headsSub (k := 2) (a := 0) (m := k) rfl (by rw [hdP_length]; omega) i y (by rw [List.drop_zero, List.take_of_length_le (by rw [hdP_length]; omega)]; exact hy); rwa [Nat.zero_mul] at this) hof (by rw [hdP_length, hdP_length]; omega) 30
    have HRK := Lib.hid hrk
    obtain ⟨va, wa, hra, hSa, Aa, ca, hva⟩ := run_appE hOk (k := 2) (j := 1) (A := As) (c := cs) rfl rfl (by rw [hdP_length]; omega) 30
    rw [hdP_length, hFl] at hva
    subst hva
    have hTs0 : Ts = [] := List.eq_nil_of_length_eq_zero hSl
    obtain ⟨All, hAll⟩ : ∃ All, All = Tf ++ Ts := ⟨_, rfl⟩
    have hAl : All.length = k := by rw [hAll, List.length_append, hFl, hSl]; omega
    have hAT : All = Tf := by rw [hAll, hTs0, List.append_nil]
    have hPP : (piP Tf ++ piP Ts).Perm (piP All) := by rw [hAll, piP_append]
    have HSLI := Lib.hid (show ∀ y ∈ All, ∃ A n c, y.1 = .slice A n c from fun y hy => (hO.pileForm (k := 5) rfl) (y.1, y.2.1) (List.mem_append.2 (.inr (hPP.mem_iff.2 (List.mem_map.2 ⟨y, hy, rfl⟩)))))
    rw [← hAll] at HLEFT
    clear hAll
    have hSb := (show Objs w0 wa (.heads (.slice (some ⟨gr, 0, none⟩) L.length c) (hdP T) :: .heads (.slice As 0 cs) (hdP Ts) :: .heads (.slice Aa k ca) (hdP All) :: .box x 33 #[.int .i64 cols, .slice (some ⟨gr, 0, none⟩) L.length c] :: .box b5 106 #[.int .i64 top, .int .i64 bot] :: .pile (piP T ++ (piP Tf ++ piP Ts)) :: .lines (.slice Ag k cg) G :: .box b7 54 (pv q) :: os) from by rw [hAT]; exact hSa).del 1
    have HRA := Lib.hid hra
    obtain ⟨A8, c8, e8, -, -, -, hg8⟩ := (show Objs w0 wa (.heads (.slice (some ⟨gr, 0, none⟩) L.length c) (hdP T) :: .heads (.slice Aa k ca) (hdP All) :: _) from hSb).headsForm (k := 1) rfl
    simp only [Value.slice.injEq] at e8
    obtain ⟨rfl, -, rfl⟩ := e8
    obtain ⟨ga, rfl, -, -, -⟩ := hg8 (by rw [hdP_length]; omega)
    have HPERM := Lib.hid (@rperm T Ts Tf top k All hPP)
    obtain ⟨P, hP⟩ : ∃ P, P = piP T ++ (piP Tf ++ piP Ts) := ⟨_, rfl⟩
    rw [← hP] at HPERM hSb
    obtain ⟨T1, hT1⟩ : ∃ T1, T1 = T.take top := ⟨_, rfl⟩
    obtain ⟨Rr, hRr⟩ : ∃ Rr, Rr = T.drop top := ⟨_, rfl⟩
    have hTT : hdP T = hdP T1 ++ (hdP (All.take 0) ++ hdP (Rr.drop 0)) := by rw [hT1, hRr]; simp [hdP]
    have HT1 := Lib.hid (show T1.length = top by rw [hT1]; simp; omega)
    have HRL := Lib.hid (show Rr.length = L.length - top by rw [hRr]; simp; omega)
    rw [← hT1, ← hRr] at HPERM
    rw [← hT1, ← hRr] at HLEFT
    rw [hTT] at hSb
    have SB := Lib.hid hSb
    have HAL := Lib.hid hAl
    clear hSa hSb hra hrk hOk hO hg8 hP hT1 hRr hTT hPP hS2 hT hTs hTf hos hof hSl hFl hTl hG hcf hGl0 hAl SZ
    go_upto_region 21 with (at_builtin; refine wpList_app _ _ (wanted_none rfl) rfl rfl rfl HRK.out ?_)
    go_wp2_with (at_builtin; refine wpList_app _ _ (wanted_none rfl) rfl rfl rfl HRA.out ?_)
    go_loopw [17] (fun vi wr => ∃ d : Nat, d ≤ k ∧ vi = .int .i64 d ∧ Objs w0 wr (.heads (.slice (some ⟨gr, 0, none⟩) L.length c) (hdP T1 ++ (hdP (All.take d) ++ hdP (Rr.drop d))) :: .heads (.slice (some ⟨ga, 0, none⟩) k ca) (hdP All) :: .box x 33 #[.int .i64 cols, .slice (some ⟨gr, 0, none⟩) L.length c] :: .box b5 106 #[.int .i64 top, .int .i64 bot] :: .pile P :: .lines (.slice Ag k cg) G :: .box b7 54 (pv q) :: os)) (fun vi _ => k - (intOf vi).toNat)
    case atStart => exact ⟨0, by omega, rfl, SB.out⟩
    case round =>
     obtain ⟨d, hdm, rfl, hS⟩ := hrel
     have S8 := Lib.hid hS
     clear hS SB
     by_cases hlt : d < k
     case neg =>
      have hX := S8.out
      have hd : d = k := by omega
      rw [hd, List.take_of_length_le (by rw [HAL.out]; exact Nat.le_refl _), ← hdP_append, ← hdP_append] at hX
      have hX2 := roll_shut HPERM.out hX
      obtain ⟨L1, hL1⟩ : ∃ L1, L1 = lnP (T1 ++ (All ++ Rr.drop k)) := ⟨_, rfl⟩
      have HLF := HLEFT
      rw [← hL1] at hX2 HLF
      have hL1l : L1.length = L.length := by rw [hL1, lnP_length]; simp only [List.length_append, List.length_drop]; have := HT1.out; have := HRL.out; have := HAL.out; omega
      have SX := Lib.hid hX2
      obtain ⟨hx5, hf5, hz5⟩ := (hX2.box (k := 2) rfl).facts
      clear hX hX2 hd hL1 S8
      by_cases ht0 : top = 0
      ·have HT0 := Lib.hid (show topHard top L1 = L1 by unfold topHard; rw [if_neg (by omega)])
       have htg : ¬ (0 : Int) < (top : Int) := by omega
       have SF := Lib.hid (fin_roll2 SX.out)
       clear ht0
       go_wp2_with fail
       go_ret
       exact ⟨Ag, k, cg, rfl, by rw [← HGONE.out, ← HLF.out, HT0.out]; exact SF.out⟩
      ·have htg : (0 : Int) < (top : Int) := by omega
       obtain ⟨l9, hlt1⟩ := get_of (show top - 1 < L1.length by omega)
       have HT0 := Lib.hid (show L1.set (top - 1) (l9.1, false) = topHard top L1 by unfold topHard; rw [if_pos (by omega), softMod_some hlt1])
       have HWT := Lib.hid (show IntKind.i64.wrap ((top : Int) - 1) = (top : Int) - 1 from IntWalk.i64_in _ (by omega))
       have htz : (0 : Int) ≤ (top : Int) - 1 := by omega
       have htz2 : (top : Int) - 1 < (L.length : Int) := by omega
       have htz3 : ¬ (top : Int) < 1 := by omega
       have htn : ((top : Int) - 1).toNat = top - 1 := by omega
       have SY := SX
       go_upto_region 27 with (fail)
       refine wp_region_stage (w0 := w0) (os := (.lines (.slice Ag k cg) G :: .box b7 54 (pv q) :: os)) (by kernel_rfl) (by kernel_rfl) (by kernel_rfl) [(0, 9, [], fun vs => .lines (.slice (some ⟨gr, 0, none⟩) L.length c) (L1.set (top - 1) (l9.1, false)))] [[], [], [], [1], [], [2], [], [], [], [0]] [.lines (.slice (some ⟨gr, 0, none⟩) L.length c) L1, .box x 33 #[.int .i64 ↑cols, .slice (some ⟨gr, 0, none⟩) L.length c], .box b5 106 #[.int .i64 ↑top, .int .i64 ↑bot]] (fun i u => match i with | 0 => u = pt x 0 | 1 => u = pt x 0 | 2 => u = pt x 1 | 3 => u = .slice (some ⟨gr, 0, none⟩) L.length c | 4 => u = pt b5 0 | 5 => u = .int .i64 ↑top | 6 => u = .int .i64 (↑top - 1) | 7 => u = pt gr ((top - 1) * 2) | 8 => u = pt gr ((top - 1) * 2 + 1) | 9 => True | _ => True) (fun vs => [.lines (.slice (some ⟨gr, 0, none⟩) L.length c) (L1.set (top - 1) (l9.1, false)), .box x 33 #[.int .i64 ↑cols, .slice (some ⟨gr, 0, none⟩) L.length c], .box b5 106 #[.int .i64 ↑top, .int .i64 ↑bot]]) (by kernel_rfl) (fun vs => by rfl) SY.out ?_ ?_
       ·apply sc
        ·intro a w' vs σ hS hl hs hk
         have f0 : a.tmps[0]?.getD undef = .pointer (some ⟨x, 0, none⟩) := sof hk
         exact rp (pt x 0) (by simp [execOp, Act.eval, f0, go_sem]) hl hs hS
        apply sc
        ·intro a w' vs σ hS hl hs hk
         have f124 : a.tmps[124]?.getD undef = .pointer (some ⟨x, 0, none⟩) := sf hk 0
         exact rp (pt x 0) (by simp [execOp, Act.eval, f124, go_sem]) hl hs hS
        apply sc
        ·intro a w' vs σ hS hl hs hk
         have f125 : a.tmps[125]?.getD undef = .pointer (some ⟨x, 0, none⟩) := sf hk 1
         exact rp (pt x 1) (by simp [execOp, Act.eval, f125, go_sem]) hl hs hS
        apply sc
        ·intro a w' vs σ hS hl hs hk
         have f126 : a.tmps[126]?.getD undef = .pointer (some ⟨x, 1, none⟩) := sf hk 2
         have hx := (hS.box (sg (hs 1 (by decide)))).cell
         exact rp (.slice (some ⟨gr, 0, none⟩) L.length c) (by simp [execOp, Act.eval, f126, go_sem, hx]) hl hs hS
        apply sc
        ·intro a w' vs σ hS hl hs hk
         have f5 : a.tmps[5]?.getD undef = .pointer (some ⟨b5, 0, none⟩) := sof hk
         exact rp (pt b5 0) (by simp [execOp, Act.eval, f5, go_sem]) hl hs hS
        apply sc
        ·intro a w' vs σ hS hl hs hk
         have f128 : a.tmps[128]?.getD undef = .pointer (some ⟨b5, 0, none⟩) := sf hk 4
         have hx := (hS.box (sg (hs 2 (by decide)))).cell
         exact rp (.int .i64 ↑top) (by simp [execOp, Act.eval, f128, go_sem, hx]) hl hs hS
        apply sc
        ·intro a w' vs σ hS hl hs hk
         have f129 : a.tmps[129]?.getD undef = .int .i64 ↑top := sf hk 5
         exact rp (.int .i64 (↑top - 1)) (by simp [execOp, Act.eval, f129, go_sem, HWT.out]) hl hs hS
        apply sc
        ·intro a w' vs σ hS hl hs hk
         have f127 : a.tmps[127]?.getD undef = .slice (some ⟨gr, 0, none⟩) L.length c := sf hk 3
         have f130 : a.tmps[130]?.getD undef = .int .i64 (↑top - 1) := sf hk 6
         exact rp (pt gr ((top - 1) * 2)) (by simp [execOp, Act.eval, f127, f130, go_sem, htz, htz2, htn, htz3]) hl hs hS
        apply sc
        ·intro a w' vs σ hS hl hs hk
         have f131 : a.tmps[131]?.getD undef = .pointer (some ⟨gr, (top - 1) * 2, none⟩) := sf hk 7
         exact rp (pt gr ((top - 1) * 2 + 1)) (by simp [execOp, Act.eval, f131, go_sem]) hl hs hS
        apply sc
        ·intro a w' vs σ hS hl hs hk
         have f132 : a.tmps[132]?.getD undef = .pointer (some ⟨gr, (top - 1) * 2 + 1, none⟩) := sf hk 8
         have h1 : σ[0]? = some (.lines (.slice (some ⟨gr, 0, none⟩) L.length c) L1) := hs 0 (by decide)
         obtain ⟨F9, bs9, hF9, -⟩ := hS.get (sg h1)
         obtain ⟨A9, c9, e9, -, -, -, hg9⟩ := hF9.form
         simp only [Value.slice.injEq] at e9
         obtain ⟨rfl, -, rfl⟩ := e9
         obtain ⟨g9, e9', hz, -, hso, hf⟩ := hg9 (by omega)
         cases e9'
         have hx := hso _ _ hlt1
         exact rstep_store (w2 := w'.setCell ⟨gr, (top - 1) * 2 + 1, none⟩ (.bool false)) (wanted_none rfl) rfl (by simp [execOp, Act.eval, f132, hx, hf, hz, go_sem]) (sp_set 0 (.lines (.slice (some ⟨gr, 0, none⟩) L.length c) (L1.set (top - 1) (l9.1, false))) (by kernel_rfl) (by simp) (by decide) hl hs (by rfl) (hS.storeSoft (sg h1) hlt1) trivial) trivial
        exact SSteps.nil
       ·intro vs w' hS hv
        have q0 : vs 0 = _ := hv 0 (by decide)
        have q1 : vs 1 = _ := hv 1 (by decide)
        have q2 : vs 2 = _ := hv 2 (by decide)
        have q3 : vs 3 = _ := hv 3 (by decide)
        have q4 : vs 4 = _ := hv 4 (by decide)
        have q5 : vs 5 = _ := hv 5 (by decide)
        have q6 : vs 6 = _ := hv 6 (by decide)
        have q7 : vs 7 = _ := hv 7 (by decide)
        have q8 : vs 8 = _ := hv 8 (by decide)
        have S2 := Lib.hid hS
        simp only [putL, Act.put, Nat.zero_add, Nat.reduceAdd, List.setIfInBounds_toArray, List.set_cons_succ, List.set_cons_zero, q0, q1, q2, q3, q4, q5, q6, q7, q8]
        clear hS hv q0 q1 q2 q3 q4 q5 q6 q7 q8
        have S9 := S2.out
        rw [HT0.out] at S9
        have SF := Lib.hid (fin_roll2 S9)
        clear S9 S2
        go_wp2_with fail
        go_ret
        exact ⟨Ag, k, cg, rfl, by rw [← HGONE.out, ← HLF.out]; exact SF.out⟩
     have hdA : d < All.length := by rw [HAL.out]; exact hlt
     have hdR : d < Rr.length := by rw [HRL.out]; omega
     obtain ⟨Ad, nd, cd, hsl⟩ := HSLI.out All[d] (List.getElem_mem hdA)
     have hdz : (0 : Int) ≤ (d : Int) := by omega
     have hdz2 : (d : Int) < (k : Int) := by omega
     have htz : (0 : Int) ≤ (top : Int) + (d : Int) := by omega
     have htz2 : (top : Int) + (d : Int) < (L.length : Int) := by omega
     have htn : ((top : Int) + (d : Int)).toNat = top + d := by omega
     have HWD := Lib.hid (show IntKind.i64.wrap ((top : Int) + (d : Int)) = (top : Int) + (d : Int) from IntWalk.i64_in _ (by omega))
     have HHL := Lib.hid (show (hdP T1 ++ (hdP (All.take d) ++ hdP (Rr.drop d))).length = top + (d + (Rr.length - d)) by simp only [List.length_append, hdP_length, List.length_drop, List.length_take, HT1.out]; omega)
     go_upto_region 25 with (fail)
     refine wp_region_stage (w0 := w0) (os := (.pile P :: .lines (.slice Ag k cg) G :: .box b7 54 (pv q) :: os)) (by kernel_rfl) (by kernel_rfl) (by kernel_rfl) [(0, 13, [], fun vs => .heads (.slice (some ⟨gr, 0, none⟩) L.length c) (List.set (hdP T1 ++ (hdP (All.take d) ++ hdP (Rr.drop d))) (top + d) (All[d].1, All[d].2.2)))] [[], [], [], [2], [], [3], [], [], [], [], [], [1], [], [0]] [.heads (.slice (some ⟨gr, 0, none⟩) L.length c) (hdP T1 ++ (hdP (All.take d) ++ hdP (Rr.drop d))), .heads (.slice (some ⟨ga, 0, none⟩) k ca) (hdP All), .box x 33 #[.int .i64 ↑cols, .slice (some ⟨gr, 0, none⟩) L.length c], .box b5 106 #[.int .i64 ↑top, .int .i64 ↑bot]] (fun i u => match i with | 0 => u = pt x 0 | 1 => u = pt x 0 | 2 => u = pt x 1 | 3 => u = .slice (some ⟨gr, 0, none⟩) L.length c | 4 => u = pt b5 0 | 5 => u = .int .i64 ↑top | 6 => u = .int .i64 ↑d | 7 => u = .int .i64 (↑top + ↑d) | 8 => u = .slice (some ⟨ga, 0, none⟩) k ca | 9 => u = .int .i64 ↑d | 10 => u = pt ga (d * 2) | 11 => u = .agg #[All[d].1, .bool All[d].2.2] | 12 => u = pt gr ((top + d) * 2) | 13 => True | _ => True) (fun vs => [.heads (.slice (some ⟨gr, 0, none⟩) L.length c) (List.set (hdP T1 ++ (hdP (All.take d) ++ hdP (Rr.drop d))) (top + d) (All[d].1, All[d].2.2)), .heads (.slice (some ⟨ga, 0, none⟩) k ca) (hdP All), .box x 33 #[.int .i64 ↑cols, .slice (some ⟨gr, 0, none⟩) L.length c], .box b5 106 #[.int .i64 ↑top, .int .i64 ↑bot]]) (by kernel_rfl) (fun vs => by rfl) S8.out ?_ ?_
     ·apply sc
      ·intro a w' vs σ hS hl hs hk
       have f0 : a.tmps[0]?.getD undef = .pointer (some ⟨x, 0, none⟩) := sof hk
       exact rp (pt x 0) (by simp [execOp, Act.eval, f0, go_sem]) hl hs hS
      apply sc
      ·intro a w' vs σ hS hl hs hk
       have f108 : a.tmps[108]?.getD undef = .pointer (some ⟨x, 0, none⟩) := sf hk 0
       exact rp (pt x 0) (by simp [execOp, Act.eval, f108, go_sem]) hl hs hS
      apply sc
      ·intro a w' vs σ hS hl hs hk
       have f109 : a.tmps[109]?.getD undef = .pointer (some ⟨x, 0, none⟩) := sf hk 1
       exact rp (pt x 1) (by simp [execOp, Act.eval, f109, go_sem]) hl hs hS
      apply sc
      ·intro a w' vs σ hS hl hs hk
       have f110 : a.tmps[110]?.getD undef = .pointer (some ⟨x, 1, none⟩) := sf hk 2
       have hx := (hS.box (sg (hs 2 (by decide)))).cell
       exact rp (.slice (some ⟨gr, 0, none⟩) L.length c) (by simp [execOp, Act.eval, f110, go_sem, hx]) hl hs hS
      apply sc
      ·intro a w' vs σ hS hl hs hk
       have f5 : a.tmps[5]?.getD undef = .pointer (some ⟨b5, 0, none⟩) := sof hk
       exact rp (pt b5 0) (by simp [execOp, Act.eval, f5, go_sem]) hl hs hS
      apply sc
      ·intro a w' vs σ hS hl hs hk
       have f112 : a.tmps[112]?.getD undef = .pointer (some ⟨b5, 0, none⟩) := sf hk 4
       have hx := (hS.box (sg (hs 3 (by decide)))).cell
       exact rp (.int .i64 ↑top) (by simp [execOp, Act.eval, f112, go_sem, hx]) hl hs hS
      apply sc
      ·intro a w' vs σ hS hl hs hk
       have f17 : a.tmps[17]?.getD undef = .int .i64 ↑d := sof hk
       exact rp (.int .i64 ↑d) (by simp [execOp, Act.eval, f17, go_sem]) hl hs hS
      apply sc
      ·intro a w' vs σ hS hl hs hk
       have f113 : a.tmps[113]?.getD undef = .int .i64 ↑top := sf hk 5
       have f114 : a.tmps[114]?.getD undef = .int .i64 ↑d := sf hk 6
       exact rp (.int .i64 (↑top + ↑d)) (by simp [execOp, Act.eval, f113, f114, go_sem, HWD.out]) hl hs hS
      apply sc
      ·intro a w' vs σ hS hl hs hk
       have f16 : a.tmps[16]?.getD undef = .slice (some ⟨ga, 0, none⟩) k ca := sof hk
       exact rp (.slice (some ⟨ga, 0, none⟩) k ca) (by simp [execOp, Act.eval, f16, go_sem]) hl hs hS
      apply sc
      ·intro a w' vs σ hS hl hs hk
       have f17 : a.tmps[17]?.getD undef = .int .i64 ↑d := sof hk
       exact rp (.int .i64 ↑d) (by simp [execOp, Act.eval, f17, go_sem]) hl hs hS
      apply sc
      ·intro a w' vs σ hS hl hs hk
       have f116 : a.tmps[116]?.getD undef = .slice (some ⟨ga, 0, none⟩) k ca := sf hk 8
       have f117 : a.tmps[117]?.getD undef = .int .i64 ↑d := sf hk 9
       exact rp (pt ga (d * 2)) (by simp [execOp, Act.eval, f116, f117, go_sem, hdz, hdz2]) hl hs hS
      apply sc
      ·intro a w' vs σ hS hl hs hk
       have f118 : a.tmps[118]?.getD undef = .pointer (some ⟨ga, d * 2, none⟩) := sf hk 10
       have h1 : σ[1]? = some (.heads (.slice (some ⟨ga, 0, none⟩) k ca) (hdP All)) := hs 1 (by decide)
       obtain ⟨A8, c8, e8, -, -, -, hg8⟩ := hS.headsForm (sg h1)
       simp only [Value.slice.injEq] at e8
       obtain ⟨rfl, -, rfl⟩ := e8
       obtain ⟨g8, e9, hz, hcs, hf⟩ := hg8 (by rw [hdP_length]; omega)
       cases e9
       obtain ⟨hx, hx'⟩ := hcs d (All[d].1, All[d].2.2) (by simp [hdP, hdA])
       exact ro_pure (v := .agg #[All[d].1, .bool All[d].2.2]) (wanted_none rfl) (by simp [execOp, Act.eval, f118, hx, hx', go_sem]) (sp_same (by kernel_rfl) hl hs hS rfl) trivial
      apply sc
      ·intro a w' vs σ hS hl hs hk
       have f111 : a.tmps[111]?.getD undef = .slice (some ⟨gr, 0, none⟩) L.length c := sf hk 3
       have f115 : a.tmps[115]?.getD undef = .int .i64 (↑top + ↑d) := sf hk 7
       exact rp (pt gr ((top + d) * 2)) (by simp [execOp, Act.eval, f111, f115, go_sem, htz, htz2, htn]) hl hs hS
      apply sc
      ·intro a w' vs σ hS hl hs hk
       have f120 : a.tmps[120]?.getD undef = .pointer (some ⟨gr, (top + d) * 2, none⟩) := sf hk 12
       have f119 : a.tmps[119]?.getD undef = .agg #[All[d].1, .bool All[d].2.2] := sf hk 11
       have h1 : σ[0]? = some (.heads (.slice (some ⟨gr, 0, none⟩) L.length c) (hdP T1 ++ (hdP (All.take d) ++ hdP (Rr.drop d)))) := hs 0 (by decide)
       obtain ⟨A8, c8, e8, -, -, -, hg8⟩ := hS.headsForm (sg h1)
       simp only [Value.slice.injEq] at e8
       obtain ⟨rfl, -, rfl⟩ := e8
       have hHl := HHL.out
       obtain ⟨g8, e9, hz, hcs, hf⟩ := hg8 (by omega)
       cases e9
       obtain ⟨x8, hx8⟩ := get_of (show top + d < (hdP T1 ++ (hdP (All.take d) ++ hdP (Rr.drop d))).length by omega)
       obtain ⟨hx, hx'⟩ := hcs (top + d) x8 hx8
       exact rstep_store (w2 := (w'.setCell ⟨gr, (top + d) * 2, none⟩ All[d].1).setCell ⟨gr, (top + d) * 2 + 1, none⟩ (.bool All[d].2.2)) (wanted_none rfl) rfl (by simp [execOp, Act.eval, f120, f119, hsl, hx, hx', hf, hz, go_sem]) (sp_set 0 (.heads (.slice (some ⟨gr, 0, none⟩) L.length c) (List.set (hdP T1 ++ (hdP (All.take d) ++ hdP (Rr.drop d))) (top + d) (All[d].1, All[d].2.2))) (by kernel_rfl) (by simp) (by decide) hl hs (by rfl) (hS.storeHead (sg h1)) trivial) trivial
      exact SSteps.nil
     ·intro vs w' hS hv
      have q0 : vs 0 = _ := hv 0 (by decide)
      have q1 : vs 1 = _ := hv 1 (by decide)
      have q2 : vs 2 = _ := hv 2 (by decide)
      have q3 : vs 3 = _ := hv 3 (by decide)
      have q4 : vs 4 = _ := hv 4 (by decide)
      have q5 : vs 5 = _ := hv 5 (by decide)
      have q6 : vs 6 = _ := hv 6 (by decide)
      have q7 : vs 7 = _ := hv 7 (by decide)
      have q8 : vs 8 = _ := hv 8 (by decide)
      have q9 : vs 9 = _ := hv 9 (by decide)
      have q10 : vs 10 = _ := hv 10 (by decide)
      have q11 : vs 11 = _ := hv 11 (by decide)
      have q12 : vs 12 = _ := hv 12 (by decide)
      have S2 := Lib.hid hS
      simp only [putL, Act.put, Nat.zero_add, Nat.reduceAdd, List.setIfInBounds_toArray, List.set_cons_succ, List.set_cons_zero, q0, q1, q2, q3, q4, q5, q6, q7, q8, q9, q10, q11, q12]
      clear hS hv q0 q1 q2 q3 q4 q5 q6 q7 q8 q9 q10 q11 q12
      have S9 := S2.out
      rw [hdP_fill All[d].1 All[d].2.1 All[d].2.2 HT1.out (by rw [List.length_take]; omega) hdR, show All.take d ++ [(All[d].1, All[d].2.1, All[d].2.2)] = All.take (d + 1) from (List.take_succ_eq_append_getElem hdA).symm] at S9
      have S10 := Lib.hid S9
      clear S9 S2
      go_wp2_with fail
      go_roundw
      case rel => exact ⟨d + 1, by omega, by go_num, S10.out⟩
      case measure => simp [intOf]; omega
end
end Go.Proofs.YtppijfjigcoifaaDoor

namespace Go.Proofs.YtppijfjigcoifaaDoor
open Go.RowKit

def shiftN (j cols : Nat) (n : Int) (q : Pen) (cs : List Cell) : List Cell :=
 if n = 0 then cs else if 0 < n then shiftR j (min n ((cols - j : Nat) : Int)).toNat q cs else shiftL j (min (-n) ((cols - j : Nat) : Int)).toNat q cs
section
variable {w0 w : World} {os : List Ob} {k p cols : Nat} {L : List Ln}
theorem ShiftG {i j : Nat} (n : Int) (q : Pen) (hT : Tabs w0) (hS : Objs w0 w os) (hk : os[k]? = some (.grid p 58 cols L)) (hcm : cols ≤ 1000) (hR : Rect cols L) (hi : i < L.length) (hq : q.ok = true) (hj : j < cols) (hn : -9223372036854775808 ≤ n ∧ n ≤ 9223372036854775807) :
  Calls Tryd.prog 52 #[.pointer (some ⟨p, 0, none⟩), .int .i64 i, .int .i64 j, .int .i64 n, .agg (pv q)] w fun e w' => e = .returned (.int .i64 0) ∧ Objs w0 w' (os.set k (.grid p 58 cols (rowMod i (shiftN j cols n q) L))) := by
 obtain ⟨l, hl⟩ := get_of hi
 rw [rowMod_some hl]
 have hc : 0 < cols := by omega
 have hrow : l.1.length = cols := hR.at_ hl
 by_cases h0 : n = 0
 ·have e : shiftN j cols n q l.1 = l.1 := if_pos h0
  rw [e, set_self hl]
  exact front_call hS hk (fun os1 h => Shift_none q hT h hc hcm ⟨by omega, by omega⟩ hq h0)
 by_cases h1 : 0 < n
 ·have e : shiftN j cols n q l.1 = shiftR j (min n ((cols - j : Nat) : Int)).toNat q l.1 := by unfold shiftN; rw [if_neg h0, if_pos h1]
  rw [e]
  exact front_call hS hk (fun os1 h => Shift_right q hT h hc hcm hl hrow hq n hj h1 hn.2 (by omega))
 have e : shiftN j cols n q l.1 = shiftL j (min (-n) ((cols - j : Nat) : Int)).toNat q l.1 := by unfold shiftN; rw [if_neg h0, if_neg h1]
 rw [e]
 by_cases h2 : -n < ((cols - j : Nat) : Int)
 ·obtain ⟨m, hm⟩ : ∃ m : Nat, (m : Int) = -n := ⟨(-n).toNat, by omega⟩
  obtain rfl : n = -(m : Int) := by omega
  rw [show (min (-(-(m : Int))) ((cols - j : Nat) : Int)).toNat = m by omega]
  exact front_call hS hk (fun os1 h => Shift_left1 q hT h hc hcm hl hrow hq hj (by omega) (by omega))
 ·rw [show (min (-n) ((cols - j : Nat) : Int)).toNat = cols - j by omega]
  exact front_call hS hk (fun os1 h => Shift_left2 q hT h hc hcm hl hrow hq n hj (by omega) (by omega) hn.1)
theorem r14ShiftG {i j : Nat} (n : Int) (q : Pen) (hS : Objs w0 w os) (hk : os[k]? = some (.grid p 33 cols L)) (hcm : cols ≤ 1000) (hR : Rect cols L) (hi : i < L.length) (hj : j < cols) (hn : -9223372036854775808 ≤ n ∧ n ≤ 9223372036854775807) :
  Calls Tryd.prog 82 #[.pointer (some ⟨p, 0, none⟩), .int .i64 i, .int .i64 j, .int .i64 n, .agg (pv q)] w fun e w' => e = .returned (.tuple #[]) ∧ Objs w0 w' (os.set k (.grid p 33 cols (rowMod i (shiftN j cols n q) L))) := by
 obtain ⟨l, hl⟩ := get_of hi
 rw [rowMod_some hl]
 have hc : 0 < cols := by omega
 have hrow : l.1.length = cols := hR.at_ hl
 by_cases h0 : n = 0
 ·have e : shiftN j cols n q l.1 = l.1 := if_pos h0
  rw [e, set_self hl]
  exact front_call hS hk (fun os1 h => r14Shift_none q n h hc hcm hl hrow h0)
 by_cases h1 : 0 < n
 ·have e : shiftN j cols n q l.1 = shiftR j (min n ((cols - j : Nat) : Int)).toNat q l.1 := by unfold shiftN; rw [if_neg h0, if_pos h1]
  rw [e]
  exact front_call hS hk (fun os1 h => r14Shift_right q h hc hcm hl hrow n hj h1 hn.2 (by omega))
 have e : shiftN j cols n q l.1 = shiftL j (min (-n) ((cols - j : Nat) : Int)).toNat q l.1 := by unfold shiftN; rw [if_neg h0, if_neg h1]
 rw [e]
 by_cases h2 : -n < ((cols - j : Nat) : Int)
 ·obtain ⟨m, hm⟩ : ∃ m : Nat, (m : Int) = -n := ⟨(-n).toNat, by omega⟩
  obtain rfl : n = -(m : Int) := by omega
  rw [show (min (-(-(m : Int))) ((cols - j : Nat) : Int)).toNat = m by omega]
  exact front_call hS hk (fun os1 h => r14Shift_left1 q h hc hcm hl hrow hj (by omega) (by omega))
 ·rw [show (min (-n) ((cols - j : Nat) : Int)).toNat = cols - j by omega]
  exact front_call hS hk (fun os1 h => r14Shift_left2 q h hc hcm hl hrow n hj (by omega) (by omega) hn.1)
theorem Roll_zero {top bot : Int} {n : Int} (q : Pen) (hT : Tabs w0) (hS : Objs w0 w os) (hk : os[k]? = some (.grid p 58 cols L)) (hc : 0 < cols) (hin : 0 ≤ top ∧ top ≤ bot ∧ bot < L.length) (hq : q.ok = true) (hn : n = 0) :
  Calls Tryd.prog 50 #[.pointer (some ⟨p, 0, none⟩), .agg #[.int .i64 top, .int .i64 bot], .int .i64 n, .agg (pv q)] w fun e w' => e = .returned (.tuple #[.slice none 0 0, .int .i64 0]) ∧ Objs w0 w' os := by
 have HQ := Lib.hid hq
 subst hn
 clear hq
 have S := Lib.hid hS
 have HT := Lib.hid hT
 have HK := Lib.hid hk
 have d1 : decide (top < 0) = false := by simp; omega
 have d2 : decide (bot < top) = false := by simp; omega
 have d3 : decide ((L.length : Int) ≤ bot) = false := by simp; omega
 clear hS hT hk
 go_enter Tryd.func50, Tryd.ntmps50
 go_wp2_with fail
 refine (none_no S.out.alloc2 (k := k + 2) HK.out hc).mono ?_
 rintro e w1 ⟨rfl, hS⟩
 generalize w.heap.size + 1 = b7 at hS ⊢
 generalize w.heap.size = b5 at hS ⊢
 have S2 := Lib.hid hS
 obtain ⟨A, c, hB, hcx, -⟩ := hS.gridRd (k := k + 2) HK.out
 obtain ⟨hx5, hf5, hz5⟩ := (hS.box (k := 1) rfl).facts
 obtain ⟨hxp, hfp, hzp⟩ := hB.facts
 clear hS hB S
 go_wp2_with fail
 refine wp_region_below (by kernel_rfl) (by kernel_rfl) ?_
 repeat (go_big_quiet_step (fail))
 refine wpQuiet_nil ?_
 intro w2 hb2
 have S3 := Lib.hid (S2.out.bel hb2)
 clear hx5 hf5 hz5 hxp hfp hzp S2 hb2
 have hp7 := (S3.out.box (k := 0) rfl).penAt
 have hz7 := (S3.out.box (k := 0) rfl).lt
 go_wp2_with fail
 refine (inked_is HQ.out HT.out S3.out).mono ?_
 rintro e w3 ⟨rfl, hS⟩
 have S4 := Lib.hid hS
 clear hS S3 hp7 hz7
 go_wp2_with fail
 go_ret2
 exact ⟨rfl, S4.out.tail.tail⟩
theorem Roll_pen {top bot n : Int} (q : Pen) (hT : Tabs w0) (hS : Objs w0 w os) (hk : os[k]? = some (.grid p 58 cols L)) (hc : 0 < cols) (hin : 0 ≤ top ∧ top ≤ bot ∧ bot < L.length) (hq : q.ok = false) :
  Calls Tryd.prog 50 #[.pointer (some ⟨p, 0, none⟩), .agg #[.int .i64 top, .int .i64 bot], .int .i64 n, .agg (pv q)] w fun e w' => e = .returned (.tuple #[.slice none 0 0, .int .i64 2]) ∧ Objs w0 w' os := by
 have HQ := Lib.hid hq
 clear hq
 have S := Lib.hid hS
 have HT := Lib.hid hT
 have HK := Lib.hid hk
 have d1 : decide (top < 0) = false := by simp; omega
 have d2 : decide (bot < top) = false := by simp; omega
 have d3 : decide ((L.length : Int) ≤ bot) = false := by simp; omega
 clear hS hT hk
 go_enter Tryd.func50, Tryd.ntmps50
 go_wp2_with fail
 refine (none_no S.out.alloc2 (k := k + 2) HK.out hc).mono ?_
 rintro e w1 ⟨rfl, hS⟩
 generalize w.heap.size + 1 = b7 at hS ⊢
 generalize w.heap.size = b5 at hS ⊢
 have S2 := Lib.hid hS
 obtain ⟨A, c, hB, hcx, -⟩ := hS.gridRd (k := k + 2) HK.out
 obtain ⟨hx5, hf5, hz5⟩ := (hS.box (k := 1) rfl).facts
 obtain ⟨hxp, hfp, hzp⟩ := hB.facts
 clear hS hB S
 go_wp2_with fail
 refine wp_region_below (by kernel_rfl) (by kernel_rfl) ?_
 repeat (go_big_quiet_step (fail))
 refine wpQuiet_nil ?_
 intro w2 hb2
 have S3 := Lib.hid (S2.out.bel hb2)
 clear hx5 hf5 hz5 hxp hfp hzp S2 hb2
 have hp7 := (S3.out.box (k := 0) rfl).penAt
 have hz7 := (S3.out.box (k := 0) rfl).lt
 go_wp2_with fail
 refine (inked_is HQ.out HT.out S3.out).mono ?_
 rintro e w3 ⟨rfl, hS⟩
 have S4 := Lib.hid hS
 clear hS S3 hp7 hz7
 go_wp2_with fail
 go_ret2
 exact ⟨rfl, S4.out.tail.tail⟩
theorem Roll_range {top bot n : Int} (q : Pen) (hT : Tabs w0) (hS : Objs w0 w os) (hk : os[k]? = some (.grid p 58 cols L)) (hc : 0 < cols) (hno : ¬ (0 ≤ top ∧ top ≤ bot ∧ bot < L.length)) :
  Calls Tryd.prog 50 #[.pointer (some ⟨p, 0, none⟩), .agg #[.int .i64 top, .int .i64 bot], .int .i64 n, .agg (pv q)] w fun e w' => e = .returned (.tuple #[.slice none 0 0, .int .i64 3]) ∧ Objs w0 w' os := by
 by_cases h1 : top < 0
 ·have S := Lib.hid hS
  have HT := Lib.hid hT
  have HK := Lib.hid hk
  have d1 : decide (top < 0) = true := by simpa using h1
  clear hS hT hk
  go_enter Tryd.func50, Tryd.ntmps50
  go_wp2_with fail
  refine (none_no S.out.alloc2 (k := k + 2) HK.out hc).mono ?_
  rintro e w1 ⟨rfl, hS⟩
  generalize w.heap.size + 1 = b7 at hS ⊢
  generalize w.heap.size = b5 at hS ⊢
  have S2 := Lib.hid hS
  obtain ⟨A, c, hB, hcx, -⟩ := hS.gridRd (k := k + 2) HK.out
  obtain ⟨hx5, hf5, hz5⟩ := (hS.box (k := 1) rfl).facts
  obtain ⟨hxp, hfp, hzp⟩ := hB.facts
  clear hS hB S
  go_wp2_with fail
  refine wp_region_below (by kernel_rfl) (by kernel_rfl) ?_
  repeat (go_big_quiet_step (fail))
  refine wpQuiet_nil ?_
  intro w2 hb2
  have S3 := Lib.hid (S2.out.bel hb2)
  clear hx5 hf5 hz5 hxp hfp hzp S2 hb2
  go_wp2_with fail
  go_ret2
  exact ⟨rfl, S3.out.tail.tail⟩
 by_cases h2 : bot < top
 ·have S := Lib.hid hS
  have HT := Lib.hid hT
  have HK := Lib.hid hk
  have d1 : decide (top < 0) = false := by simp; omega
  have d2 : decide (bot < top) = true := by simpa using h2
  clear hS hT hk
  go_enter Tryd.func50, Tryd.ntmps50
  go_wp2_with fail
  refine (none_no S.out.alloc2 (k := k + 2) HK.out hc).mono ?_
  rintro e w1 ⟨rfl, hS⟩
  generalize w.heap.size + 1 = b7 at hS ⊢
  generalize w.heap.size = b5 at hS ⊢
  have S2 := Lib.hid hS
  obtain ⟨A, c, hB, hcx, -⟩ := hS.gridRd (k := k + 2) HK.out
  obtain ⟨hx5, hf5, hz5⟩ := (hS.box (k := 1) rfl).facts
  obtain ⟨hxp, hfp, hzp⟩ := hB.facts
  clear hS hB S
  go_wp2_with fail
  refine wp_region_below (by kernel_rfl) (by kernel_rfl) ?_
  repeat (go_big_quiet_step (fail))
  refine wpQuiet_nil ?_
  intro w2 hb2
  have S3 := Lib.hid (S2.out.bel hb2)
  clear hx5 hf5 hz5 hxp hfp hzp S2 hb2
  go_wp2_with fail
  go_ret2
  exact ⟨rfl, S3.out.tail.tail⟩
 have S := Lib.hid hS
 have HT := Lib.hid hT
 have HK := Lib.hid hk
 have d1 : decide (top < 0) = false := by simp; omega
 have d2 : decide (bot < top) = false := by simp; omega
 have d3 : decide ((L.length : Int) ≤ bot) = true := by simp; omega
 clear hS hT hk
 go_enter Tryd.func50, Tryd.ntmps50
 go_wp2_with fail
 refine (none_no S.out.alloc2 (k := k + 2) HK.out hc).mono ?_
 rintro e w1 ⟨rfl, hS⟩
 generalize w.heap.size + 1 = b7 at hS ⊢
 generalize w.heap.size = b5 at hS ⊢
 have S2 := Lib.hid hS
 obtain ⟨A, c, hB, hcx, -⟩ := hS.gridRd (k := k + 2) HK.out
 obtain ⟨hx5, hf5, hz5⟩ := (hS.box (k := 1) rfl).facts
 obtain ⟨hxp, hfp, hzp⟩ := hB.facts
 clear hS hB S
 go_wp2_with fail
 refine wp_region_below (by kernel_rfl) (by kernel_rfl) ?_
 repeat (go_big_quiet_step (fail))
 refine wpQuiet_nil ?_
 intro w2 hb2
 have S3 := Lib.hid (S2.out.bel hb2)
 clear hx5 hf5 hz5 hxp hfp hzp S2 hb2
 go_wp2_with fail
 go_ret2
 exact ⟨rfl, S3.out.tail.tail⟩
theorem RollG {top bot : Nat} (n : Int) (q : Pen) (hT : Tabs w0) (hS : Objs w0 w os) (hk : os[k]? = some (.grid p 58 cols L)) (hc : 0 < cols) (hcm : cols ≤ 1000) (hL : L.length ≤ 100000) (htb : top ≤ bot) (hbl : bot < L.length) (hq : q.ok = true) (hn : -9223372036854775808 ≤ n ∧ n ≤ 9223372036854775807) :
  Calls Tryd.prog 50 #[.pointer (some ⟨p, 0, none⟩), .agg #[.int .i64 top, .int .i64 bot], .int .i64 n, .agg (pv q)] w fun e w' => ∃ A m c, e = .returned (.tuple #[.slice A m c, .int .i64 0]) ∧ Objs w0 w' (.lines (.slice A m c) (rollGone top bot n L) :: os.set k (.grid p 58 cols (rollL top bot n q cols L))) := by
 by_cases h0 : n = 0
 ·have e1 : rollGone top bot n L = [] := if_pos h0
  have e2 : rollL top bot n q cols L = L := if_pos h0
  rw [e1, e2, set_self hk]
  exact (Roll_zero (top := top) (bot := bot) q hT hS hk hc ⟨by omega, by omega, by omega⟩ hq h0).mono (fun e w' ⟨h1, h2⟩ => ⟨none, 0, 0, h1, h2.nilLines⟩)
 by_cases h1 : 0 < n
 ·by_cases h2 : n < ((bot + 1 - top : Nat) : Int)
  ·exact (Roll_pos (k := n.toNat) q hT (hS.lift hk) hc hcm hL htb hbl hq h1 (.inl ⟨h2, by omega⟩)).mono (fun e w' ⟨A, m, c, h1, h2⟩ => ⟨A, m, c, h1, h2.lowerNew hk⟩)
  ·exact (Roll_pos (k := bot + 1 - top) q hT (hS.lift hk) hc hcm hL htb hbl hq h1 (.inr ⟨⟨by omega, hn.2⟩, rfl⟩)).mono (fun e w' ⟨A, m, c, h1, h2⟩ => ⟨A, m, c, h1, h2.lowerNew hk⟩)
 ·by_cases h2 : -((bot + 1 - top : Nat) : Int) < n
  ·exact (Roll_neg (k := (-n).toNat) q hT (hS.lift hk) hc hcm hL htb hbl hq (by omega) (.inl ⟨h2, by omega⟩)).mono (fun e w' ⟨A, m, c, h1, h2⟩ => ⟨A, m, c, h1, h2.lowerNew hk⟩)
  ·exact (Roll_neg (k := bot + 1 - top) q hT (hS.lift hk) hc hcm hL htb hbl hq (by omega) (.inr ⟨⟨by omega, hn.1⟩, rfl⟩)).mono (fun e w' ⟨A, m, c, h1, h2⟩ => ⟨A, m, c, h1, h2.lowerNew hk⟩)
set_option maxRecDepth 100000 in
theorem r14Roll_zero {top bot n : Int} (q : Pen) (hS : Objs w0 w os) (hn : n = 0) :
  Calls Tryd.prog 83 #[.pointer (some ⟨p, 0, none⟩), .agg #[.int .i64 top, .int .i64 bot], .int .i64 n, .agg (pv q)] w fun e w' => e = .returned (.slice none 0 0) ∧ Objs w0 w' os := by
 have S := Lib.hid hS
 subst hn
 clear hS
 go_enter Tryd.func83, Tryd.ntmps83
 go_upto_region 1 with (fail)
 refine at_objsC S.out.alloc2 (fun W hW => ?_)
 have SW := Lib.hid hW
 clear hW
 go_wp2_with fail
 go_ret
 exact ⟨rfl, SW.out.tail.tail⟩
theorem r14RollG {top bot : Nat} (n : Int) (q : Pen) (hS : Objs w0 w os) (hk : os[k]? = some (.grid p 33 cols L)) (hcm : cols ≤ 1000) (hL : L.length ≤ 1000) (hmill : ∀ l ∈ L, l.1.length ≤ 1000000) (htb : top ≤ bot) (hbl : bot < L.length) (hn : -9223372036854775808 ≤ n ∧ n ≤ 9223372036854775807) :
  Calls Tryd.prog 83 #[.pointer (some ⟨p, 0, none⟩), .agg #[.int .i64 top, .int .i64 bot], .int .i64 n, .agg (pv q)] w fun e w' => ∃ A m c, e = .returned (.slice A m c) ∧ Objs w0 w' (.lines (.slice A m c) (rollGone top bot n L) :: os.set k (.grid p 33 cols (rollL top bot n q cols L))) := by
 by_cases h0 : n = 0
 ·have e1 : rollGone top bot n L = [] := if_pos h0
  have e2 : rollL top bot n q cols L = L := if_pos h0
  rw [e1, e2, set_self hk]
  exact (r14Roll_zero (top := top) (bot := bot) q hS h0).mono (fun e w' ⟨h1, h2⟩ => ⟨none, 0, 0, h1, h2.nilLines⟩)
 by_cases h1 : 0 < n
 ·by_cases h2 : n < ((bot + 1 - top : Nat) : Int)
  ·exact (r14Roll_pos (k := n.toNat) q (hS.lift hk) hcm hL hmill htb hbl h1 (.inl ⟨h2, by omega⟩)).mono (fun e w' ⟨A, m, c, h1, h2⟩ => ⟨A, m, c, h1, h2.lowerNew hk⟩)
  ·exact (r14Roll_pos (k := bot + 1 - top) q (hS.lift hk) hcm hL hmill htb hbl h1 (.inr ⟨⟨by omega, hn.2⟩, rfl⟩)).mono (fun e w' ⟨A, m, c, h1, h2⟩ => ⟨A, m, c, h1, h2.lowerNew hk⟩)
 ·by_cases h2 : -((bot + 1 - top : Nat) : Int) < n
  ·exact (r14Roll_neg (k := (-n).toNat) q (hS.lift hk) hcm hL hmill htb hbl (by omega) (.inl ⟨h2, by omega⟩)).mono (fun e w' ⟨A, m, c, h1, h2⟩ => ⟨A, m, c, h1, h2.lowerNew hk⟩)
  ·exact (r14Roll_neg (k := bot + 1 - top) q (hS.lift hk) hcm hL hmill htb hbl (by omega) (.inr ⟨⟨by omega, hn.1⟩, rfl⟩)).mono (fun e w' ⟨A, m, c, h1, h2⟩ => ⟨A, m, c, h1, h2.lowerNew hk⟩)
end
theorem shiftN_length {j cols : Nat} {n : Int} {q : Pen} {cs : List Cell} (h : cs.length = cols) (hj : j < cols) : (shiftN j cols n q cs).length = cols := by
 unfold shiftN
 split
 ·exact h
 split
 ·rw [shiftR_length (by omega)]; exact h
 ·rw [shiftL_length (by omega)]; exact h
end Go.Proofs.YtppijfjigcoifaaDoor
