/-
  Part 4 of the texts on which the proofs of this seat stand: each part says ahead of it what it shows.
-/
import Derived.Test.YtghahanpmcpacaaDoorR3

/-
  Roll of the reference's grid, upwards.
-/
set_option linter.unusedSimpArgs false
set_option linter.unusedVariables false
namespace Go.Proofs.YtghahanpmcpacaaDoor
open Go.RowKit

theorem RdL.part0 {w : World} {b c c' a m : Nat} {L : List Ln} (h : RdL w (some ⟨b, 0, none⟩) c L) (ham : a + m ≤ L.length) (hm : m ≤ c') : RdL w (some ⟨b, a * 2, none⟩) c' ((L.drop a).take m) := by
  have := h.part ham hm; rwa [Nat.zero_add] at this
theorem RdL.part1 {w : World} {b c c' a j m : Nat} {L : List Ln} (h : RdL w (some ⟨b, 0, none⟩) c L) (ham : a + j + m ≤ L.length) (hm : m ≤ c') : RdL w (some ⟨b, a * 2 + j * 2, none⟩) c' ((L.drop (a + j)).take m) := by
  have := h.part0 (a := a + j) ham hm; rwa [Nat.add_mul] at this
section
variable {w0 w : World} {os : List Ob}
theorem ord_a {a v b7 b5 bx : Ob} (h : Objs w0 w (a :: v :: b7 :: b5 :: bx :: os)) : Objs w0 w (a :: b7 :: bx :: v :: b5 :: os) := by
  have h1 := (h.lift (k := 4) rfl : Objs w0 w (bx :: a :: v :: b7 :: b5 :: .none :: os)).del 5
  have h2 := ((show Objs w0 w (bx :: a :: v :: b7 :: b5 :: os) from h1).lift (k := 3) rfl : Objs w0 w (b7 :: bx :: a :: v :: .none :: b5 :: os)).del 4
  have h3 := ((show Objs w0 w (b7 :: bx :: a :: v :: b5 :: os) from h2).lift (k := 2) rfl : Objs w0 w (a :: b7 :: bx :: .none :: v :: b5 :: os)).del 3
  exact h3
theorem ord_b {a v b7 b5 bx : Ob} (h : Objs w0 w (a :: b7 :: bx :: v :: b5 :: os)) : Objs w0 w (v :: a :: b7 :: bx :: b5 :: os) :=
  ((h.lift (k := 3) rfl : Objs w0 w (v :: a :: b7 :: bx :: .none :: b5 :: os)).del 4)
end
section
variable {w0 w : World} {os : List Ob} {x cols : Nat} {L : List Ln}
set_option maxRecDepth 100000 in
set_option maxHeartbeats 8000000 in
theorem r14Roll_pos {top bot k : Nat} {n : Int} (q : Pen) (hS : Objs w0 w (.grid x 63 cols L :: os)) (hcm : cols ≤ 1000) (hL : L.length ≤ 1000) (hmill : ∀ l ∈ L, l.1.length ≤ 1000000) (htb : top ≤ bot) (hbl : bot < L.length) (hn : 0 < n) (hk : (n < ((bot + 1 - top : Nat) : Int) ∧ n = (k : Int)) ∨ ((((bot + 1 - top : Nat) : Int) ≤ n ∧ n ≤ 9223372036854775807) ∧ k = bot + 1 - top)) :
    Calls Tryd.prog 62 #[.pointer (some ⟨x, 0, none⟩), .agg #[.int .i64 top, .int .i64 bot], .int .i64 n, .agg (pv q)] w fun e w' => ∃ A m c, e = .returned (.slice A m c) ∧ Objs w0 w' (.lines (.slice A m c) (rollGone top bot n L) :: .grid x 63 cols (rollL top bot n q cols L) :: os) := by
  have S := Lib.hid hS
  have HMILL := Lib.hid hmill
  obtain ⟨many, hmany⟩ : ∃ many, many = bot + 1 - top := ⟨_, rfl⟩
  have HMANY := Lib.hid hmany
  have hb0 := beq_no (show ¬ n = 0 by omega)
  have HK := Lib.hid hk
  have HMI := Lib.hid (show (bot : Int) - (top : Int) + 1 = (many : Int) by omega)
  have HBI := Lib.hid (show bot + 1 - top = many from hmany.symm)
  have hmb : many ≤ 1000 := by omega
  have hm1 : 0 < many := by omega
  have htm : top + many ≤ L.length := by omega
  have hkm : k ≤ many := by omega
  have hk0 : 0 < k := by omega
  rw [← hmany] at hk
  have HKK := Lib.hid (rollK_is (n := n) (k := k) hmany (by rcases hk with ⟨a1, a2⟩ | ⟨⟨a1, a3⟩, a2⟩ <;> omega))
  clear hS hmany hmill
  go_enter Tryd.func62, Tryd.ntmps62
  go_upto_region 1 with (fail)
  refine at_objsC S.out.alloc2 (fun W hW => ?_)
  generalize w.heap.size + 1 = b7 at hW ⊢
  generalize w.heap.size = b5 at hW ⊢
  obtain ⟨v, hS1⟩ := hW.openGrid (k := 2) rfl
  obtain ⟨A, c, rfl, hcmx, hrl⟩ := hS1.linesRd (k := 0) rfl
  have hlc : L.length ≤ c := hrl.1
  obtain ⟨gr, off0, rfl, -⟩ : ∃ b off, A = some ⟨b, off, none⟩ ∧ True := by obtain ⟨b, off, e, -⟩ := hrl.2.2 (by omega); exact ⟨b, off, e, trivial⟩
  obtain rfl : off0 = 0 := by
    obtain ⟨F, bs, hF, -⟩ := hS1.get (k := 0) rfl
    obtain ⟨A2, c2, e2, -, -, -, h4⟩ := hF.form
    simp only [Value.slice.injEq, true_and] at e2
    obtain ⟨rfl, rfl⟩ := e2
    obtain ⟨g, e3, -⟩ := h4 (by omega)
    cases e3; rfl
  have S1 := Lib.hid (ord_a (show Objs w0 W (.lines (.slice none 0 0) [] :: .lines (.slice (some ⟨gr, 0, none⟩) L.length c) L :: .box b7 31 (pv q) :: .box b5 23 #[.int .i64 top, .int .i64 bot] :: .box x 63 #[.int .i64 cols, .slice (some ⟨gr, 0, none⟩) L.length c] :: os) from hS1.nilLines))
  obtain ⟨hx5, hf5, hz5⟩ := (hS1.box (k := 2) rfl).facts
  have hctop : many ≤ c - top := by omega
  clear hW hS1 hrl
  rcases hk with ⟨h1, h2⟩ | ⟨⟨h1, h3⟩, h2⟩
  · subst h2
    have hmax : max (k : Int) (-(k : Int)) = (k : Int) := by omega
    have hnm : -(many : Int) < (k : Int) := by omega
    have hkl : k < many := by omega
    have hmi := HMI.out
    go_wp2_with fail
    go_loopw [11, 12] (fun u11 vi wr => ∃ (d : Nat) (vf : Value), d ≤ k ∧ vf = u11 ∧ vi = .int .i64 d ∧ Objs w0 wr (.lines vf (rollFresh d cols q) :: .box b7 31 (pv q) :: .box x 63 #[.int .i64 cols, .slice (some ⟨gr, 0, none⟩) L.length c] :: .lines (.slice (some ⟨gr, 0, none⟩) L.length c) L :: .box b5 23 #[.int .i64 top, .int .i64 bot] :: os)) (fun _ vi _ => k - (intOf vi).toNat)
    case atStart => exact ⟨0, _, by omega, rfl, rfl, S1.out⟩
    case round =>
      obtain ⟨d, vf, hdk, rfl, rfl, hS⟩ := hrel
      have S2 := Lib.hid hS
      clear hS S1
      by_cases hlt : d < k
      · have SZ := Lib.hid S2.out.pad.pad
        clear S2
        go_upto_region 11 with (fail)
        refine wp_region_stage (w0 := w0) (os := (.lines (.slice (some ⟨gr, 0, none⟩) L.length c) L :: .box b5 23 #[.int .i64 ↑top, .int .i64 ↑bot] :: os)) (by kernel_rfl) (by kernel_rfl) (by kernel_rfl) [(0, 6, [6], fun vs => .cells (lineV (vs 6)) (List.replicate cols (blank q))), (1, 7, [6, 7], fun vs => .box (blkOf (vs 7)) 79 #[lineV (vs 6), .bool false]), (2, 8, [8], fun vs => .lines (vs 8) (rollFresh (d + 1) cols q)), (0, 8, [], fun vs => .none), (2, 9, [9], fun vs => .lines (vs 9) (rollFresh (d + 1) cols q))] [[], [], [], [], [4], [3], [0], [1], [0, 1, 2], [2]] [.none, .none, .lines vf (rollFresh d cols q), .box b7 31 (pv q), .box x 63 #[.int .i64 ↑cols, .slice (some ⟨gr, 0, none⟩) L.length c]] (fun i u => match i with | 0 => u = (vf : Value) | 1 => u = (.pointer (some ⟨x, 0, none⟩) : Value) | 2 => u = (.pointer (some ⟨x, 0, none⟩) : Value) | 3 => u = (.pointer (some ⟨x, 0, none⟩) : Value) | 4 => u = (.int .i64 ↑cols : Value) | 5 => u = (.agg (pv q) : Value) | 6 => ∃ y, u = .agg #[y, .bool false] | 7 => ∃ g, u = .slice (some ⟨g, 0, none⟩) 1 1 | 8 => ∃ A m c, u = .slice A m c | 9 => ∃ A m c, u = .slice A m c | _ => True) (fun vs => [.none, .box (blkOf (vs 7)) 79 #[lineV (vs 6), .bool false], .lines (vs 9) (rollFresh (d + 1) cols q), .box b7 31 (pv q), .box x 63 #[.int .i64 ↑cols, .slice (some ⟨gr, 0, none⟩) L.length c]]) (by kernel_rfl) (fun vs => by rfl) SZ.out ?_ ?_
        · refine SSteps.cons (fun a w' vs σ hS hl hs hk => ?_) ?_
          · have e11 : a.tmps.getD 11 undef = (vf : Value) := (sk_later hk 9 (by kernel_rfl) rfl rfl).trans rfl
            have f11 := gd e11
            exact ro_pure (v := vf) (wanted_none rfl) (by simp [execOp, Act.eval, e11, f11, go_sem]) (sp_same (by kernel_rfl) hl hs hS (show (vf : Value) = _ from rfl)) trivial
          refine SSteps.cons (fun a w' vs σ hS hl hs hk => ?_) ?_
          · have e0 : a.tmps.getD 0 undef = (.pointer (some ⟨x, 0, none⟩) : Value) := (sk_old hk 0 (by kernel_rfl)).trans rfl
            have f0 := gd e0
            exact ro_pure (v := .pointer (some ⟨x, 0, none⟩)) (wanted_none rfl) (by simp [execOp, Act.eval, e0, f0, go_sem]) (sp_same (by kernel_rfl) hl hs hS (show (.pointer (some ⟨x, 0, none⟩) : Value) = _ from rfl)) trivial
          refine SSteps.cons (fun a w' vs σ hS hl hs hk => ?_) ?_
          · have e46 : a.tmps.getD 46 undef = (.pointer (some ⟨x, 0, none⟩) : Value) := (sk_val hk 1 (by kernel_rfl) rfl rfl).trans ((hk.1 1 (by kernel_rfl)).1)
            have f46 := gd e46
            exact ro_pure (v := .pointer (some ⟨x, 0, none⟩)) (wanted_none rfl) (by simp [execOp, Act.eval, e46, f46, go_sem]) (sp_same (by kernel_rfl) hl hs hS (show (.pointer (some ⟨x, 0, none⟩) : Value) = _ from rfl)) trivial
          refine SSteps.cons (fun a w' vs σ hS hl hs hk => ?_) ?_
          · have e47 : a.tmps.getD 47 undef = (.pointer (some ⟨x, 0, none⟩) : Value) := (sk_val hk 2 (by kernel_rfl) rfl rfl).trans ((hk.1 2 (by kernel_rfl)).1)
            have f47 := gd e47
            exact ro_pure (v := .pointer (some ⟨x, 0, none⟩)) (wanted_none rfl) (by simp [execOp, Act.eval, e47, f47, go_sem]) (sp_same (by kernel_rfl) hl hs hS (show (.pointer (some ⟨x, 0, none⟩) : Value) = _ from rfl)) trivial
          refine SSteps.cons (fun a w' vs σ hS hl hs hk => ?_) ?_
          · have e48 : a.tmps.getD 48 undef = (.pointer (some ⟨x, 0, none⟩) : Value) := (sk_val hk 3 (by kernel_rfl) rfl rfl).trans ((hk.1 3 (by kernel_rfl)).1)
            have f48 := gd e48
            have hx := (hS.box (sg (hs 4 (by decide)))).cell
            exact ro_pure (v := .int .i64 ↑cols) (wanted_none rfl) (by simp [execOp, Act.eval, e48, f48, go_sem, hx]) (sp_same (by kernel_rfl) hl hs hS (show (.int .i64 ↑cols : Value) = _ from rfl)) trivial
          refine SSteps.cons (fun a w' vs σ hS hl hs hk => ?_) ?_
          · have e7 : a.tmps.getD 7 undef = (.pointer (some ⟨b7, 0, none⟩) : Value) := (sk_old hk 7 (by kernel_rfl)).trans rfl
            have f7 := gd e7
            have hx := (hS.box (sg (hs 3 (by decide)))).penAt
            exact ro_pure (v := .agg (pv q)) (wanted_none rfl) (by simp [execOp, Act.eval, e7, f7, go_sem, hx]) (sp_same (by kernel_rfl) hl hs hS (show (.agg (pv q) : Value) = _ from rfl)) trivial
          refine SSteps.cons (fun a w' vs σ hS hl hs hk => ?_) ?_
          · have e49 : a.tmps.getD 49 undef = (.int .i64 ↑cols : Value) := (sk_val hk 4 (by kernel_rfl) rfl rfl).trans ((hk.1 4 (by kernel_rfl)).1)
            have f49 := gd e49
            have e50 : a.tmps.getD 50 undef = (.agg (pv q) : Value) := (sk_val hk 5 (by kernel_rfl) rfl rfl).trans ((hk.1 5 (by kernel_rfl)).1)
            have f50 := gd e50
            have h0 : σ[0]? = some .none := hs 0 (by decide)
            exact ro_call (f := 78) (wanted_none rfl) rfl (by simp only [List.map_toArray, List.map_cons, List.map_nil, Act.eval, e49, e50] <;> rfl) (fun _ _ => by kernel_rfl) ((r14Blanks_any cols (by omega) q w0 w' _ hS).mono fun e w2 ⟨y, h1, h2⟩ => ⟨_, h1, sp_set 0 (.cells y (List.replicate cols (blank q))) (by kernel_rfl) (by simp) (by decide) hl hs (by rfl) (h2.place (sg h0)) ⟨y, rfl⟩, trivial⟩)
          refine SSteps.cons (fun a w' vs σ hS hl hs hk => ?_) ?_
          · have e51 : a.tmps.getD 51 undef = vs 6 := sk_val hk 6 (by kernel_rfl) rfl rfl
            have p51 : (fun u : Value => ∃ y, u = .agg #[y, .bool false]) (vs 6) := (hk.1 6 (by kernel_rfl)).1
            have f51 := gd e51
            obtain ⟨y, hx⟩ := p51
            have e9 := e51.trans hx
            have f9 := gd e9
            have h1 : σ[1]? = some .none := hs 1 (by decide)
            exact rs_run (wanted_none rfl) (exec_bsl rfl (by simp [Act.eval, e9, f9]) (run_bsl y false w')) (sp_set 1 (.box w'.heap.size 79 #[y, .bool false]) (by kernel_rfl) (by simp) (by decide) hl hs (by show Ob.box (blkOf (.slice (some ⟨w'.heap.size, 0, none⟩) 1 1)) 79 #[lineV (vs 6), .bool false] = _; rw [hx]; rfl) (hS.alloc1.place (sg h1)) ⟨_, rfl⟩)
          refine SSteps.cons (fun a w' vs σ hS hl hs hk => ?_) ?_
          · have e45 : a.tmps.getD 45 undef = (vf : Value) := (sk_val hk 0 (by kernel_rfl) rfl rfl).trans ((hk.1 0 (by kernel_rfl)).1)
            have f45 := gd e45
            have e52 : a.tmps.getD 52 undef = vs 7 := sk_val hk 7 (by kernel_rfl) rfl rfl
            have p52 : (fun u : Value => ∃ g, u = .slice (some ⟨g, 0, none⟩) 1 1) (vs 7) := (hk.1 7 (by kernel_rfl)).1
            have f52 := gd e52
            have h2 : σ[2]? = some (.lines vf (rollFresh d cols q)) := hs 2 (by decide)
            have h0 : σ[0]? = some (.cells (lineV (vs 6)) (List.replicate cols (blank q))) := hs 0 (by decide)
            have h1 : σ[1]? = some (.box (blkOf (vs 7)) 79 #[lineV (vs 6), .bool false]) := hs 1 (by decide)
            obtain ⟨g8, hg8⟩ := p52
            rw [hg8, show blkOf (.slice (some ⟨g8, 0, none⟩) 1 1) = g8 from rfl] at h1
            obtain ⟨v9, w9, hr, hS2, A9, c9, hv9⟩ := run_appL hS (k := 2) (j := 0) (ad := ⟨g8, 0, none⟩) (c := 1) (s := false) (sg h2) (sg h0) (by decide) (by rw [(hS.box (sg h1)).cell]; rfl) (by rw [add_at, (hS.box (sg h1)).cell]; rfl) (by simp [rollFresh]; omega) 35
            rw [show rollFresh d cols q ++ [((List.replicate cols (blank q)), false)] = (rollFresh (d + 1) cols q) from (List.replicate_succ' ..).symm] at hS2
            exact rs_run (wanted_none rfl) (exec_app rfl (by simp only [Act.eval]; exact e45) (by simp only [Act.eval]; exact e52.trans hg8) hr) (sp_set2 2 0 (.lines v9 (rollFresh (d + 1) cols q)) .none (by decide) (by kernel_rfl) (by simp) (by simp) (by decide) (by decide) hl hs (by rfl) (by rfl) hS2 ⟨A9, _, c9, hv9⟩)
          refine SSteps.cons (fun a w' vs σ hS hl hs hk => ?_) ?_
          · have e53 : a.tmps.getD 53 undef = vs 8 := sk_val hk 8 (by kernel_rfl) rfl rfl
            have p53 : (fun u : Value => ∃ A m c, u = .slice A m c) (vs 8) := (hk.1 8 (by kernel_rfl)).1
            have f53 := gd e53
            obtain ⟨A9, n9, c9, q9⟩ := p53
            have e9 := e53.trans q9
            have f9 := gd e9
            have h2 : σ[2]? = some (.lines (vs 8) (rollFresh (d + 1) cols q)) := hs 2 (by decide)
            rw [q9] at h2
            have hSS : Objs w0 w' ((σ ++ (.lines (.slice (some ⟨gr, 0, none⟩) L.length c) L :: .box b5 23 #[.int .i64 ↑top, .int .i64 ↑bot] :: os)).set 2 (.lines (.slice A9 n9 c9) (rollFresh (d + 1) cols q))) := by rw [set_self (sg h2)]; exact hS
            exact rs_run (v' := .slice A9 n9 c9) (w' := w') (wanted_none rfl) (by simp [execOp, Act.eval, e9, f9, go_sem]) (sp_set 2 (.lines (.slice A9 n9 c9) (rollFresh (d + 1) cols q)) (by kernel_rfl) (by simp) (by decide) hl hs (by rfl) hSS ⟨A9, n9, c9, rfl⟩)
          exact SSteps.nil
        · intro vs w' hS hv
          have q0 := (show vs 0 = (vf : Value) from hv 0 (by decide))
          have q1 := (show vs 1 = (.pointer (some ⟨x, 0, none⟩) : Value) from hv 1 (by decide))
          have q2 := (show vs 2 = (.pointer (some ⟨x, 0, none⟩) : Value) from hv 2 (by decide))
          have q3 := (show vs 3 = (.pointer (some ⟨x, 0, none⟩) : Value) from hv 3 (by decide))
          have q4 := (show vs 4 = (.int .i64 ↑cols : Value) from hv 4 (by decide))
          have q5 := (show vs 5 = (.agg (pv q) : Value) from hv 5 (by decide))
          have S2 := Lib.hid hS
          simp only [putL, Act.put, Nat.zero_add, Nat.reduceAdd, List.setIfInBounds_toArray, List.set_cons_succ, List.set_cons_zero, q0, q1, q2, q3, q4, q5]
          clear hS hv q0 q1 q2 q3 q4 q5
          go_wp2_with fail
          go_roundw
          case rel => exact ⟨d + 1, vs 9, by omega, rfl, by go_num, (S2.out.del 0).del 0⟩
          case measure => simp [intOf]; omega
      obtain rfl : k = d := by omega
      have S3 := Lib.hid (ord_b S2.out)
      obtain ⟨hxx, hfx, hzx⟩ := (S3.out.box (k := 3) rfl).facts
      clear hx5 hf5 hz5
      obtain ⟨hx5, hf5, hz5⟩ := (S3.out.box (k := 4) rfl).facts
      clear S2
      go_wp2_with fail
      refine wp_region_below (by kernel_rfl) (by kernel_rfl) ?_
      repeat (go_big_quiet_step (fail))
      refine wpQuiet_nil ?_
      intro w2 hb2
      have SZ := Lib.hid (S3.out.bel hb2).pad.pad
      clear hxx hfx hzx hx5 hf5 hz5 S3 hb2
      simp only [HBI.out]
      have hkz : (0 : Int) ≤ (k : Int) := by omega
      have hkz2 : (k : Int) ≤ (many : Int) := by omega
      have hkz3 : k ≤ c - top := by omega
      have hkz4 : ¬ c - top = k := by omega
      go_wp2_with fail
      refine wp_region_stage (w0 := w0) (os := (.lines vf (rollFresh k cols q) :: .box b7 31 (pv q) :: .box x 63 #[.int .i64 ↑cols, .slice (some ⟨gr, 0, none⟩) L.length c] :: .box b5 23 #[.int .i64 ↑top, .int .i64 ↑bot] :: os)) (by kernel_rfl) (by kernel_rfl) (by kernel_rfl) [(0, 3, [3], fun vs => .lines (vs 3) ((L.drop top).take k)), (1, 7, [7], fun vs => .lines (vs 7) ((L.drop (top + k)).take (many - k))), (0, 8, [8], fun vs => .lines (vs 8) ((L.drop top).take k)), (1, 9, [9], fun vs => .lines (vs 9) ((L.drop (top + k)).take (many - k)))] [[], [], [], [0, 2], [], [], [], [1, 2], [0], [1]] [.none, .none, .lines (.slice (some ⟨gr, 0, none⟩) L.length c) L] (fun i u => match i with | 0 => u = (.slice (some ⟨gr, top * 2, none⟩) many (c - top) : Value) | 1 => u = (.int .i64 ↑k : Value) | 2 => u = (.slice (some ⟨gr, top * 2, none⟩) k (c - top) : Value) | 3 => ∃ A m c, u = .slice A m c | 4 => u = (.slice (some ⟨gr, top * 2, none⟩) many (c - top) : Value) | 5 => u = (.int .i64 ↑k : Value) | 6 => u = (.slice (some ⟨gr, top * 2 + k * 2, none⟩) (many - k) (c - top - k) : Value) | 7 => ∃ A m c, u = .slice A m c | 8 => ∃ A m c, u = .slice A m c | 9 => ∃ A m c, u = .slice A m c | _ => True) (fun vs => [.lines (vs 8) ((L.drop top).take k), .lines (vs 9) ((L.drop (top + k)).take (many - k)), .lines (.slice (some ⟨gr, 0, none⟩) L.length c) L]) (by kernel_rfl) (fun vs => by rfl) SZ.out ?_ ?_
      · refine SSteps.cons (fun a w' vs σ hS hl hs hk => ?_) ?_
        · have e13 : a.tmps.getD 13 undef = (.slice (some ⟨gr, top * 2, none⟩) many (c - top) : Value) := (sk_old hk 13 (by kernel_rfl)).trans rfl
          have f13 := gd e13
          exact ro_pure (v := .slice (some ⟨gr, top * 2, none⟩) many (c - top)) (wanted_none rfl) (by simp [execOp, Act.eval, e13, f13, go_sem]) (sp_same (by kernel_rfl) hl hs hS (show (.slice (some ⟨gr, top * 2, none⟩) many (c - top) : Value) = _ from rfl)) trivial
        refine SSteps.cons (fun a w' vs σ hS hl hs hk => ?_) ?_
        · have e10 : a.tmps.getD 10 undef = (.int .i64 ↑k : Value) := (sk_old hk 10 (by kernel_rfl)).trans rfl
          have f10 := gd e10
          exact ro_pure (v := .int .i64 ↑k) (wanted_none rfl) (by simp [execOp, Act.eval, e10, f10, go_sem]) (sp_same (by kernel_rfl) hl hs hS (show (.int .i64 ↑k : Value) = _ from rfl)) trivial
        refine SSteps.cons (fun a w' vs σ hS hl hs hk => ?_) ?_
        · have e66 : a.tmps.getD 66 undef = (.slice (some ⟨gr, top * 2, none⟩) many (c - top) : Value) := (sk_val hk 0 (by kernel_rfl) rfl rfl).trans ((hk.1 0 (by kernel_rfl)).1)
          have f66 := gd e66
          have e67 : a.tmps.getD 67 undef = (.int .i64 ↑k : Value) := (sk_val hk 1 (by kernel_rfl) rfl rfl).trans ((hk.1 1 (by kernel_rfl)).1)
          have f67 := gd e67
          exact ro_pure (v := .slice (some ⟨gr, top * 2, none⟩) k (c - top)) (wanted_none rfl) (by simp [execOp, Act.eval, e66, f66, e67, f67, go_sem, hkz, hkz2, hkz3, hkz4]) (sp_same (by kernel_rfl) hl hs hS (show (.slice (some ⟨gr, top * 2, none⟩) k (c - top) : Value) = _ from rfl)) trivial
        refine SSteps.cons (fun a w' vs σ hS hl hs hk => ?_) ?_
        · have e68 : a.tmps.getD 68 undef = (.slice (some ⟨gr, top * 2, none⟩) k (c - top) : Value) := (sk_val hk 2 (by kernel_rfl) rfl rfl).trans ((hk.1 2 (by kernel_rfl)).1)
          have f68 := gd e68
          have hn : σ[0]? = some .none := hs 0 (by decide)
          have h2 : σ[2]? = some (.lines (.slice (some ⟨gr, 0, none⟩) L.length c) L) := hs 2 (by decide)
          have hrl := (hS.linesRd' (sg h2)).2.2
          exact ro_call (f := 85) (wanted_none rfl) rfl (by simp only [List.map_toArray, List.map_cons, List.map_nil, Act.eval, e68] <;> rfl) (fun _ _ => by kernel_rfl) ((copies_at (L := ((L.drop top).take k)) (by simp; omega) (hrl.part0 (by omega) (by omega)) (by simp; omega) (fun l hl => HMILL.out l (List.mem_of_mem_drop (List.mem_of_mem_take hl)))).mono fun e w2 ⟨y, h1, h2⟩ => ⟨_, h1, sp_set 0 (.lines y ((L.drop top).take k)) (by kernel_rfl) (by simp) (by decide) hl hs (by rfl) ((hS.nest h2).place (sg hn)) (by obtain ⟨A, c, e, -⟩ := h2.linesRd (k := 0) rfl; exact ⟨A, _, c, e⟩), trivial⟩)
        refine SSteps.cons (fun a w' vs σ hS hl hs hk => ?_) ?_
        · have e13 : a.tmps.getD 13 undef = (.slice (some ⟨gr, top * 2, none⟩) many (c - top) : Value) := (sk_old hk 13 (by kernel_rfl)).trans rfl
          have f13 := gd e13
          exact ro_pure (v := .slice (some ⟨gr, top * 2, none⟩) many (c - top)) (wanted_none rfl) (by simp [execOp, Act.eval, e13, f13, go_sem]) (sp_same (by kernel_rfl) hl hs hS (show (.slice (some ⟨gr, top * 2, none⟩) many (c - top) : Value) = _ from rfl)) trivial
        refine SSteps.cons (fun a w' vs σ hS hl hs hk => ?_) ?_
        · have e10 : a.tmps.getD 10 undef = (.int .i64 ↑k : Value) := (sk_old hk 10 (by kernel_rfl)).trans rfl
          have f10 := gd e10
          exact ro_pure (v := .int .i64 ↑k) (wanted_none rfl) (by simp [execOp, Act.eval, e10, f10, go_sem]) (sp_same (by kernel_rfl) hl hs hS (show (.int .i64 ↑k : Value) = _ from rfl)) trivial
        refine SSteps.cons (fun a w' vs σ hS hl hs hk => ?_) ?_
        · have e70 : a.tmps.getD 70 undef = (.slice (some ⟨gr, top * 2, none⟩) many (c - top) : Value) := (sk_val hk 4 (by kernel_rfl) rfl rfl).trans ((hk.1 4 (by kernel_rfl)).1)
          have f70 := gd e70
          have e71 : a.tmps.getD 71 undef = (.int .i64 ↑k : Value) := (sk_val hk 5 (by kernel_rfl) rfl rfl).trans ((hk.1 5 (by kernel_rfl)).1)
          have f71 := gd e71
          exact ro_pure (v := .slice (some ⟨gr, top * 2 + k * 2, none⟩) (many - k) (c - top - k)) (wanted_none rfl) (by simp [execOp, Act.eval, e70, f70, e71, f71, go_sem, hkz, hkz2, hkz3, hkz4]) (sp_same (by kernel_rfl) hl hs hS (show (.slice (some ⟨gr, top * 2 + k * 2, none⟩) (many - k) (c - top - k) : Value) = _ from rfl)) trivial
        refine SSteps.cons (fun a w' vs σ hS hl hs hk => ?_) ?_
        · have e72 : a.tmps.getD 72 undef = (.slice (some ⟨gr, top * 2 + k * 2, none⟩) (many - k) (c - top - k) : Value) := (sk_val hk 6 (by kernel_rfl) rfl rfl).trans ((hk.1 6 (by kernel_rfl)).1)
          have f72 := gd e72
          have hn : σ[1]? = some .none := hs 1 (by decide)
          have h2 : σ[2]? = some (.lines (.slice (some ⟨gr, 0, none⟩) L.length c) L) := hs 2 (by decide)
          have hrl := (hS.linesRd' (sg h2)).2.2
          exact ro_call (f := 85) (wanted_none rfl) rfl (by simp only [List.map_toArray, List.map_cons, List.map_nil, Act.eval, e72] <;> rfl) (fun _ _ => by kernel_rfl) ((copies_at (L := ((L.drop (top + k)).take (many - k))) (by simp; omega) (hrl.part1 (by omega) (by omega)) (by simp; omega) (fun l hl => HMILL.out l (List.mem_of_mem_drop (List.mem_of_mem_take hl)))).mono fun e w2 ⟨y, h1, h2⟩ => ⟨_, h1, sp_set 1 (.lines y ((L.drop (top + k)).take (many - k))) (by kernel_rfl) (by simp) (by decide) hl hs (by rfl) ((hS.nest h2).place (sg hn)) (by obtain ⟨A, c, e, -⟩ := h2.linesRd (k := 0) rfl; exact ⟨A, _, c, e⟩), trivial⟩)
        refine SSteps.cons (fun a w' vs σ hS hl hs hk => ?_) ?_
        · have e69 : a.tmps.getD 69 undef = vs 3 := sk_val hk 3 (by kernel_rfl) rfl rfl
          have p69 : (fun u : Value => ∃ A m c, u = .slice A m c) (vs 3) := (hk.1 3 (by kernel_rfl)).1
          have f69 := gd e69
          obtain ⟨A9, n9, c9, q9⟩ := p69
          have e9 := e69.trans q9
          have f9 := gd e9
          have h2 : σ[0]? = some (.lines (vs 3) ((L.drop top).take k)) := hs 0 (by decide)
          rw [q9] at h2
          have hSS : Objs w0 w' ((σ ++ (.lines vf (rollFresh k cols q) :: .box b7 31 (pv q) :: .box x 63 #[.int .i64 ↑cols, .slice (some ⟨gr, 0, none⟩) L.length c] :: .box b5 23 #[.int .i64 ↑top, .int .i64 ↑bot] :: os)).set 0 (.lines (.slice A9 n9 c9) ((L.drop top).take k))) := by rw [set_self (sg h2)]; exact hS
          exact rs_run (v' := .slice A9 n9 c9) (w' := w') (wanted_none rfl) (by simp [execOp, Act.eval, e9, f9, go_sem]) (sp_set 0 (.lines (.slice A9 n9 c9) ((L.drop top).take k)) (by kernel_rfl) (by simp) (by decide) hl hs (by rfl) hSS ⟨A9, n9, c9, rfl⟩)
        refine SSteps.cons (fun a w' vs σ hS hl hs hk => ?_) ?_
        · have e73 : a.tmps.getD 73 undef = vs 7 := sk_val hk 7 (by kernel_rfl) rfl rfl
          have p73 : (fun u : Value => ∃ A m c, u = .slice A m c) (vs 7) := (hk.1 7 (by kernel_rfl)).1
          have f73 := gd e73
          obtain ⟨A9, n9, c9, q9⟩ := p73
          have e9 := e73.trans q9
          have f9 := gd e9
          have h2 : σ[1]? = some (.lines (vs 7) ((L.drop (top + k)).take (many - k))) := hs 1 (by decide)
          rw [q9] at h2
          have hSS : Objs w0 w' ((σ ++ (.lines vf (rollFresh k cols q) :: .box b7 31 (pv q) :: .box x 63 #[.int .i64 ↑cols, .slice (some ⟨gr, 0, none⟩) L.length c] :: .box b5 23 #[.int .i64 ↑top, .int .i64 ↑bot] :: os)).set 1 (.lines (.slice A9 n9 c9) ((L.drop (top + k)).take (many - k)))) := by rw [set_self (sg h2)]; exact hS
          exact rs_run (v' := .slice A9 n9 c9) (w' := w') (wanted_none rfl) (by simp [execOp, Act.eval, e9, f9, go_sem]) (sp_set 1 (.lines (.slice A9 n9 c9) ((L.drop (top + k)).take (many - k))) (by kernel_rfl) (by simp) (by decide) hl hs (by rfl) hSS ⟨A9, n9, c9, rfl⟩)
        exact SSteps.nil
      · intro vs w' hS hv
        have q0 := (show vs 0 = (.slice (some ⟨gr, top * 2, none⟩) many (c - top) : Value) from hv 0 (by decide))
        have q1 := (show vs 1 = (.int .i64 ↑k : Value) from hv 1 (by decide))
        have q2 := (show vs 2 = (.slice (some ⟨gr, top * 2, none⟩) k (c - top) : Value) from hv 2 (by decide))
        have q4 := (show vs 4 = (.slice (some ⟨gr, top * 2, none⟩) many (c - top) : Value) from hv 4 (by decide))
        have q5 := (show vs 5 = (.int .i64 ↑k : Value) from hv 5 (by decide))
        have q6 := (show vs 6 = (.slice (some ⟨gr, top * 2 + k * 2, none⟩) (many - k) (c - top - k) : Value) from hv 6 (by decide))
        obtain ⟨Ag, mg, cg, qg⟩ := (show ∃ A m c, vs 8 = .slice A m c from hv 8 (by decide))
        obtain ⟨As, ms, cs, qs⟩ := (show ∃ A m c, vs 9 = .slice A m c from hv 9 (by decide))
        rw [qg, qs] at hS
        obtain ⟨A1, n1, c1, q1⟩ := (show ∃ A m c, vs 3 = .slice A m c from hv 3 (by decide))
        obtain ⟨A2, n2, c2, q2⟩ := (show ∃ A m c, vs 7 = .slice A m c from hv 7 (by decide))
        have S2 := Lib.hid hS
        simp only [putL, Act.put, Nat.zero_add, Nat.reduceAdd, List.setIfInBounds_toArray, List.set_cons_succ, List.set_cons_zero, q0, q1, q2, q4, q5, q6]
        clear hS hv q0 q1 q2 q4 q5 q6
        simp only [qg, qs, q1, q2]
        have hSl0 : ((L.drop (top + k)).take (many - k)).length = many - k := by simp; omega
        have hGl0 : ((L.drop top).take k).length = k := by simp; omega
        have emg : k = mg := ((show Objs w0 w' (.lines (.slice Ag mg cg) ((L.drop top).take k) :: _) from S2.out).linesRd' (k := 0) rfl |>.1.trans hGl0).symm
        have ems : ms = many - k := (show Objs w0 w' (_ :: .lines (.slice As ms cs) ((L.drop (top + k)).take (many - k)) :: _) from S2.out).linesRd' (k := 1) rfl |>.1.trans hSl0
        subst emg ems
        obtain ⟨St, hSt⟩ : ∃ St, St = (L.drop (top + k)).take (many - k) := ⟨_, rfl⟩
        obtain ⟨G, hG⟩ : ∃ G, G = (L.drop top).take k := ⟨_, rfl⟩
        rw [← hSt] at hSl0
        have hS2 := (show Objs w0 w' (.lines (.slice Ag k cg) G :: .lines (.slice As (many - k) cs) St :: .lines (.slice (some ⟨gr, 0, none⟩) L.length c) L :: .lines vf (rollFresh k cols q) :: .box b7 31 (pv q) :: .box x 63 #[.int .i64 cols, .slice (some ⟨gr, 0, none⟩) L.length c] :: .box b5 23 #[.int .i64 top, .int .i64 bot] :: os) from by rw [hG, hSt]; exact S2.out)
        have HGONE := Lib.hid (show G = rollGone top bot (k : Int) L by rw [hG]; exact rgone_pos hn HMANY.out HKK.out hkm)
        obtain ⟨ls, hls⟩ := get_of (show St.length - 1 < St.length by omega)
        obtain ⟨FS, bS, hFS, -⟩ := hS2.get (k := 1) rfl
        obtain ⟨A9, c9, e9, -, -, -, hg9⟩ := hFS.form
        simp only [Value.slice.injEq] at e9
        obtain ⟨rfl, -, rfl⟩ := e9
        obtain ⟨gs, rfl, hgsz, -, hso, hfz⟩ := hg9 (by omega)
        have hx9 := hso _ _ hls
        have hS3 := hS2.storeSoft (k := 1) (s := false) rfl hls
        rw [show St.set (St.length - 1) (ls.1, false) = lastHard St from (softMod_some hls).symm, hSl0] at hS3
        rw [hSl0] at hx9
        have hpos : (0 : Int) < ((many - k : Nat) : Int) := by omega
        obtain ⟨T, Ts, Tf, ⟨hT, hTs, hTf⟩, hos, hof, hO⟩ := roll_open (show Objs w0 _ (.lines (.slice Ag k cg) G :: .lines (.slice (some ⟨gs, 0, none⟩) (many - k) cs) (lastHard St) :: .lines (.slice (some ⟨gr, 0, none⟩) L.length c) L :: .lines vf (rollFresh k cols q) :: .box b7 31 (pv q) :: .box x 63 #[.int .i64 cols, .slice (some ⟨gr, 0, none⟩) L.length c] :: .box b5 23 #[.int .i64 top, .int .i64 bot] :: os) from hS3)
        have hSl : Ts.length = many - k := by rw [← lnP_length, hTs, lastHard_length]; exact hSl0
        have hFl : Tf.length = k := by rw [← lnP_length, hTf]; simp [rollFresh]
        have hTl : T.length = L.length := by rw [← lnP_length, hT]
        obtain ⟨Af, cf, ef, hcf, -, -, hgf⟩ := hO.headsForm (k := 2) rfl
        rw [hdP_length, hFl] at ef hcf hgf
        obtain ⟨gf, rfl, hgfz, -, -⟩ := hgf hk0
        subst ef
        clear hS3 hg9 hso hFS hls hgf
        have HLEFT := Lib.hid (rleft_pos (T := T) (Ts := Ts) (Tf := Tf) hn HMANY.out htb HKK.out hT (by rw [hTs, hSt]) hTf)
        obtain ⟨va, wa, hra, hSa, Aa, ca, hva⟩ := run_appH hO (k := 1) rfl (ad := ⟨gf, 0, none⟩) (m := k) (c := cf) (ds := hdP Tf) (by rw [hdP_length, hFl]) hcf (fun i y hy => by have := hO.headsSub (k := 2) (a := 0) (m := k) rfl (by rw [hdP_length]; omega) i y (by rw [List.drop_zero, List.take_of_length_le (by rw [hdP_length]; omega)]; exact hy); rwa [Nat.zero_mul] at this) hof (by rw [hdP_length, hdP_length]; omega) 35
        rw [hdP_length, hdP_length, hSl, hFl, Nat.sub_add_cancel hkm] at hva
        subst hva
        obtain ⟨All, hAll⟩ : ∃ All, All = Ts ++ Tf := ⟨_, rfl⟩
        have hAl : All.length = many := by rw [hAll, List.length_append, hSl, hFl]; omega
        rw [← hdP_append, ← hAll] at hSa
        have hPP : (piP Tf ++ piP Ts).Perm (piP All) := by rw [hAll, piP_append]; exact List.perm_append_comm
        have HSLI := Lib.hid (show ∀ y ∈ All, ∃ A n c, y.1 = .slice A n c from fun y hy => (hO.pileForm (k := 5) rfl) (y.1, y.2.1) (List.mem_append.2 (.inr (hPP.mem_iff.2 (List.mem_map.2 ⟨y, hy, rfl⟩)))))
        rw [← hAll] at HLEFT
        clear hAll
        have hSb := (show Objs w0 wa (.heads (.slice (some ⟨gr, 0, none⟩) L.length c) (hdP T) :: .heads (.slice Aa many ca) (hdP All) :: .heads (.slice (some ⟨gf, 0, none⟩) k cf) (hdP Tf) :: .box x 63 #[.int .i64 cols, .slice (some ⟨gr, 0, none⟩) L.length c] :: .box b5 23 #[.int .i64 top, .int .i64 bot] :: .pile (piP T ++ (piP Tf ++ piP Ts)) :: .lines (.slice Ag k cg) G :: .box b7 31 (pv q) :: os) from hSa).del 2
        have HRA := Lib.hid hra
        obtain ⟨A8, c8, e8, -, -, -, hg8⟩ := (show Objs w0 wa (.heads (.slice (some ⟨gr, 0, none⟩) L.length c) (hdP T) :: .heads (.slice Aa many ca) (hdP All) :: _) from hSb).headsForm (k := 1) rfl
        simp only [Value.slice.injEq] at e8
        obtain ⟨rfl, -, rfl⟩ := e8
        obtain ⟨ga, rfl, -, -, -⟩ := hg8 (by rw [hdP_length]; omega)
        have HPERM := Lib.hid (@rperm T Ts Tf top many All hPP)
        obtain ⟨P, hP⟩ : ∃ P, P = piP T ++ (piP Tf ++ piP Ts) := ⟨_, rfl⟩
        rw [← hP] at HPERM hSb
        obtain ⟨T1, hT1⟩ : ∃ T1, T1 = T.take top := ⟨_, rfl⟩
        obtain ⟨Rr, hRr⟩ : ∃ Rr, Rr = T.drop top := ⟨_, rfl⟩
        have hTT : hdP T = hdP T1 ++ (hdP (All.take 0) ++ hdP (Rr.drop 0)) := by rw [hT1, hRr]; simp [hdP]
        have HT1 := Lib.hid (show T1.length = top by rw [hT1]; simp; omega)
        have HRL := Lib.hid (show Rr.length = L.length - top by rw [hRr]; simp; omega)
        rw [← hT1, ← hRr] at HPERM
        rw [← hT1, ← hRr] at HLEFT
        rw [hTT] at hSb
        have SB := Lib.hid hSb
        have HAL := Lib.hid hAl
        clear hSa hSb hra hO hg8 hP hT1 hRr hTT hPP hS2 hT hTs hTf hos hof hSl hFl hTl hG hSt hcf hSl0 hGl0 hAl SZ
        go_wp2_with (at_builtin; refine wpList_app _ _ (wanted_none rfl) rfl rfl rfl HRA.out ?_)
        go_loopw [17] (fun vi wr => ∃ d : Nat, d ≤ many ∧ vi = .int .i64 d ∧ Objs w0 wr (.heads (.slice (some ⟨gr, 0, none⟩) L.length c) (hdP T1 ++ (hdP (All.take d) ++ hdP (Rr.drop d))) :: .heads (.slice (some ⟨ga, 0, none⟩) many ca) (hdP All) :: .box x 63 #[.int .i64 cols, .slice (some ⟨gr, 0, none⟩) L.length c] :: .box b5 23 #[.int .i64 top, .int .i64 bot] :: .pile P :: .lines (.slice Ag k cg) G :: .box b7 31 (pv q) :: os)) (fun vi _ => many - (intOf vi).toNat)
        case atStart => exact ⟨0, by omega, rfl, SB.out⟩
        case round =>
          obtain ⟨d, hdm, rfl, hS⟩ := hrel
          have S8 := Lib.hid hS
          clear hS SB
          by_cases hlt : d < many
          case neg =>
            have hX := S8.out
            have hd : d = many := by omega
            rw [hd, List.take_of_length_le (by rw [HAL.out]; exact Nat.le_refl _), ← hdP_append, ← hdP_append] at hX
            have hX2 := roll_shut HPERM.out hX
            obtain ⟨L1, hL1⟩ : ∃ L1, L1 = lnP (T1 ++ (All ++ Rr.drop many)) := ⟨_, rfl⟩
            have HLF := HLEFT
            rw [← hL1] at hX2 HLF
            have hL1l : L1.length = L.length := by rw [hL1, lnP_length]; simp only [List.length_append, List.length_drop]; have := HT1.out; have := HRL.out; have := HAL.out; omega
            have SX := Lib.hid hX2
            obtain ⟨hx5, hf5, hz5⟩ := (hX2.box (k := 2) rfl).facts
            clear hX hX2 hd hL1 S8
            by_cases ht0 : top = 0
            · have HT0 := Lib.hid (show topHard top L1 = L1 by unfold topHard; rw [if_neg (by omega)])
              have htg : ¬ (0 : Int) < (top : Int) := by omega
              have SF := Lib.hid (fin_roll2 SX.out)
              clear ht0
              go_wp2_with fail
              go_ret
              exact ⟨Ag, k, cg, rfl, by rw [← HGONE.out, ← HLF.out, HT0.out]; exact SF.out⟩
            · have htg : (0 : Int) < (top : Int) := by omega
              obtain ⟨l9, hlt1⟩ := get_of (show top - 1 < L1.length by omega)
              have HT0 := Lib.hid (show L1.set (top - 1) (l9.1, false) = topHard top L1 by unfold topHard; rw [if_pos (by omega), softMod_some hlt1])
              have HWT := Lib.hid (show IntKind.i64.wrap ((top : Int) - 1) = (top : Int) - 1 from IntWalk.i64_in _ (by omega))
              have htz : (0 : Int) ≤ (top : Int) - 1 := by omega
              have htz2 : (top : Int) - 1 < (L.length : Int) := by omega
              have htz3 : ¬ (top : Int) < 1 := by omega
              have htn : ((top : Int) - 1).toNat = top - 1 := by omega
              have SY := SX
              go_upto_region 27 with (fail)
              refine wp_region_stage (w0 := w0) (os := (.lines (.slice Ag k cg) G :: .box b7 31 (pv q) :: os)) (by kernel_rfl) (by kernel_rfl) (by kernel_rfl) [(0, 9, [], fun vs => .lines (.slice (some ⟨gr, 0, none⟩) L.length c) (L1.set (top - 1) (l9.1, false)))] [[], [], [], [1], [], [2], [], [], [], [0]] [.lines (.slice (some ⟨gr, 0, none⟩) L.length c) L1, .box x 63 #[.int .i64 ↑cols, .slice (some ⟨gr, 0, none⟩) L.length c], .box b5 23 #[.int .i64 ↑top, .int .i64 ↑bot]] (fun i u => match i with | 0 => u = (.pointer (some ⟨x, 0, none⟩) : Value) | 1 => u = (.pointer (some ⟨x, 0, none⟩) : Value) | 2 => u = (.pointer (some ⟨x, 1, none⟩) : Value) | 3 => u = (.slice (some ⟨gr, 0, none⟩) L.length c : Value) | 4 => u = (.pointer (some ⟨b5, 0, none⟩) : Value) | 5 => u = (.int .i64 ↑top : Value) | 6 => u = (.int .i64 (↑top - 1) : Value) | 7 => u = (.pointer (some ⟨gr, (top - 1) * 2, none⟩) : Value) | 8 => u = (.pointer (some ⟨gr, (top - 1) * 2 + 1, none⟩) : Value) | 9 => True | _ => True) (fun vs => [.lines (.slice (some ⟨gr, 0, none⟩) L.length c) (L1.set (top - 1) (l9.1, false)), .box x 63 #[.int .i64 ↑cols, .slice (some ⟨gr, 0, none⟩) L.length c], .box b5 23 #[.int .i64 ↑top, .int .i64 ↑bot]]) (by kernel_rfl) (fun vs => by rfl) SY.out ?_ ?_
              · refine SSteps.cons (fun a w' vs σ hS hl hs hk => ?_) ?_
                · have e0 : a.tmps.getD 0 undef = (.pointer (some ⟨x, 0, none⟩) : Value) := (sk_old hk 0 (by kernel_rfl)).trans rfl
                  have f0 := gd e0
                  exact ro_pure (v := .pointer (some ⟨x, 0, none⟩)) (wanted_none rfl) (by simp [execOp, Act.eval, e0, f0, go_sem]) (sp_same (by kernel_rfl) hl hs hS (show (.pointer (some ⟨x, 0, none⟩) : Value) = _ from rfl)) trivial
                refine SSteps.cons (fun a w' vs σ hS hl hs hk => ?_) ?_
                · have e124 : a.tmps.getD 124 undef = (.pointer (some ⟨x, 0, none⟩) : Value) := (sk_val hk 0 (by kernel_rfl) rfl rfl).trans ((hk.1 0 (by kernel_rfl)).1)
                  have f124 := gd e124
                  exact ro_pure (v := .pointer (some ⟨x, 0, none⟩)) (wanted_none rfl) (by simp [execOp, Act.eval, e124, f124, go_sem]) (sp_same (by kernel_rfl) hl hs hS (show (.pointer (some ⟨x, 0, none⟩) : Value) = _ from rfl)) trivial
                refine SSteps.cons (fun a w' vs σ hS hl hs hk => ?_) ?_
                · have e125 : a.tmps.getD 125 undef = (.pointer (some ⟨x, 0, none⟩) : Value) := (sk_val hk 1 (by kernel_rfl) rfl rfl).trans ((hk.1 1 (by kernel_rfl)).1)
                  have f125 := gd e125
                  exact ro_pure (v := .pointer (some ⟨x, 1, none⟩)) (wanted_none rfl) (by simp [execOp, Act.eval, e125, f125, go_sem]) (sp_same (by kernel_rfl) hl hs hS (show (.pointer (some ⟨x, 1, none⟩) : Value) = _ from rfl)) trivial
                refine SSteps.cons (fun a w' vs σ hS hl hs hk => ?_) ?_
                · have e126 : a.tmps.getD 126 undef = (.pointer (some ⟨x, 1, none⟩) : Value) := (sk_val hk 2 (by kernel_rfl) rfl rfl).trans ((hk.1 2 (by kernel_rfl)).1)
                  have f126 := gd e126
                  have hx := (hS.box (sg (hs 1 (by decide)))).cell
                  exact ro_pure (v := .slice (some ⟨gr, 0, none⟩) L.length c) (wanted_none rfl) (by simp [execOp, Act.eval, e126, f126, go_sem, hx]) (sp_same (by kernel_rfl) hl hs hS (show (.slice (some ⟨gr, 0, none⟩) L.length c : Value) = _ from rfl)) trivial
                refine SSteps.cons (fun a w' vs σ hS hl hs hk => ?_) ?_
                · have e5 : a.tmps.getD 5 undef = (.pointer (some ⟨b5, 0, none⟩) : Value) := (sk_old hk 5 (by kernel_rfl)).trans rfl
                  have f5 := gd e5
                  exact ro_pure (v := .pointer (some ⟨b5, 0, none⟩)) (wanted_none rfl) (by simp [execOp, Act.eval, e5, f5, go_sem]) (sp_same (by kernel_rfl) hl hs hS (show (.pointer (some ⟨b5, 0, none⟩) : Value) = _ from rfl)) trivial
                refine SSteps.cons (fun a w' vs σ hS hl hs hk => ?_) ?_
                · have e128 : a.tmps.getD 128 undef = (.pointer (some ⟨b5, 0, none⟩) : Value) := (sk_val hk 4 (by kernel_rfl) rfl rfl).trans ((hk.1 4 (by kernel_rfl)).1)
                  have f128 := gd e128
                  have hx := (hS.box (sg (hs 2 (by decide)))).cell
                  exact ro_pure (v := .int .i64 ↑top) (wanted_none rfl) (by simp [execOp, Act.eval, e128, f128, go_sem, hx]) (sp_same (by kernel_rfl) hl hs hS (show (.int .i64 ↑top : Value) = _ from rfl)) trivial
                refine SSteps.cons (fun a w' vs σ hS hl hs hk => ?_) ?_
                · have e129 : a.tmps.getD 129 undef = (.int .i64 ↑top : Value) := (sk_val hk 5 (by kernel_rfl) rfl rfl).trans ((hk.1 5 (by kernel_rfl)).1)
                  have f129 := gd e129
                  exact ro_pure (v := .int .i64 (↑top - 1)) (wanted_none rfl) (by simp [execOp, Act.eval, e129, f129, go_sem, HWT.out]) (sp_same (by kernel_rfl) hl hs hS (show (.int .i64 (↑top - 1) : Value) = _ from rfl)) trivial
                refine SSteps.cons (fun a w' vs σ hS hl hs hk => ?_) ?_
                · have e127 : a.tmps.getD 127 undef = (.slice (some ⟨gr, 0, none⟩) L.length c : Value) := (sk_val hk 3 (by kernel_rfl) rfl rfl).trans ((hk.1 3 (by kernel_rfl)).1)
                  have f127 := gd e127
                  have e130 : a.tmps.getD 130 undef = (.int .i64 (↑top - 1) : Value) := (sk_val hk 6 (by kernel_rfl) rfl rfl).trans ((hk.1 6 (by kernel_rfl)).1)
                  have f130 := gd e130
                  exact ro_pure (v := .pointer (some ⟨gr, (top - 1) * 2, none⟩)) (wanted_none rfl) (by simp [execOp, Act.eval, e127, f127, e130, f130, go_sem, htz, htz2, htn, htz3]) (sp_same (by kernel_rfl) hl hs hS (show (.pointer (some ⟨gr, (top - 1) * 2, none⟩) : Value) = _ from rfl)) trivial
                refine SSteps.cons (fun a w' vs σ hS hl hs hk => ?_) ?_
                · have e131 : a.tmps.getD 131 undef = (.pointer (some ⟨gr, (top - 1) * 2, none⟩) : Value) := (sk_val hk 7 (by kernel_rfl) rfl rfl).trans ((hk.1 7 (by kernel_rfl)).1)
                  have f131 := gd e131
                  exact ro_pure (v := .pointer (some ⟨gr, (top - 1) * 2 + 1, none⟩)) (wanted_none rfl) (by simp [execOp, Act.eval, e131, f131, go_sem]) (sp_same (by kernel_rfl) hl hs hS (show (.pointer (some ⟨gr, (top - 1) * 2 + 1, none⟩) : Value) = _ from rfl)) trivial
                refine SSteps.cons (fun a w' vs σ hS hl hs hk => ?_) ?_
                · have e132 : a.tmps.getD 132 undef = (.pointer (some ⟨gr, (top - 1) * 2 + 1, none⟩) : Value) := (sk_val hk 8 (by kernel_rfl) rfl rfl).trans ((hk.1 8 (by kernel_rfl)).1)
                  have f132 := gd e132
                  have h1 : σ[0]? = some (.lines (.slice (some ⟨gr, 0, none⟩) L.length c) L1) := hs 0 (by decide)
                  obtain ⟨F9, bs9, hF9, -⟩ := hS.get (sg h1)
                  obtain ⟨A9, c9, e9, -, -, -, hg9⟩ := hF9.form
                  simp only [Value.slice.injEq] at e9
                  obtain ⟨rfl, -, rfl⟩ := e9
                  obtain ⟨g9, e9', hz, -, hso, hf⟩ := hg9 (by omega)
                  cases e9'
                  have hx := hso _ _ hlt1
                  exact rstep_store (w2 := w'.setCell ⟨gr, (top - 1) * 2 + 1, none⟩ (.bool false)) (wanted_none rfl) rfl (by simp [execOp, Act.eval, e132, f132, hx, hf, hz, go_sem]) (sp_set 0 (.lines (.slice (some ⟨gr, 0, none⟩) L.length c) (L1.set (top - 1) (l9.1, false))) (by kernel_rfl) (by simp) (by decide) hl hs (by rfl) (hS.storeSoft (sg h1) hlt1) trivial) trivial
                exact SSteps.nil
              · intro vs w' hS hv
                have q0 := (show vs 0 = (.pointer (some ⟨x, 0, none⟩) : Value) from hv 0 (by decide))
                have q1 := (show vs 1 = (.pointer (some ⟨x, 0, none⟩) : Value) from hv 1 (by decide))
                have q2 := (show vs 2 = (.pointer (some ⟨x, 1, none⟩) : Value) from hv 2 (by decide))
                have q3 := (show vs 3 = (.slice (some ⟨gr, 0, none⟩) L.length c : Value) from hv 3 (by decide))
                have q4 := (show vs 4 = (.pointer (some ⟨b5, 0, none⟩) : Value) from hv 4 (by decide))
                have q5 := (show vs 5 = (.int .i64 ↑top : Value) from hv 5 (by decide))
                have q6 := (show vs 6 = (.int .i64 (↑top - 1) : Value) from hv 6 (by decide))
                have q7 := (show vs 7 = (.pointer (some ⟨gr, (top - 1) * 2, none⟩) : Value) from hv 7 (by decide))
                have q8 := (show vs 8 = (.pointer (some ⟨gr, (top - 1) * 2 + 1, none⟩) : Value) from hv 8 (by decide))
                have S2 := Lib.hid hS
                simp only [putL, Act.put, Nat.zero_add, Nat.reduceAdd, List.setIfInBounds_toArray, List.set_cons_succ, List.set_cons_zero, q0, q1, q2, q3, q4, q5, q6, q7, q8]
                clear hS hv q0 q1 q2 q3 q4 q5 q6 q7 q8
                have S9 := S2.out
                rw [HT0.out] at S9
                have SF := Lib.hid (fin_roll2 S9)
                clear S9 S2
                go_wp2_with fail
                go_ret
                exact ⟨Ag, k, cg, rfl, by rw [← HGONE.out, ← HLF.out]; exact SF.out⟩
          have hdA : d < All.length := by rw [HAL.out]; exact hlt
          have hdR : d < Rr.length := by rw [HRL.out]; omega
          obtain ⟨Ad, nd, cd, hsl⟩ := HSLI.out All[d] (List.getElem_mem hdA)
          have hdz : (0 : Int) ≤ (d : Int) := by omega
          have hdz2 : (d : Int) < (many : Int) := by omega
          have htz : (0 : Int) ≤ (top : Int) + (d : Int) := by omega
          have htz2 : (top : Int) + (d : Int) < (L.length : Int) := by omega
          have htn : ((top : Int) + (d : Int)).toNat = top + d := by omega
          have HWD := Lib.hid (show IntKind.i64.wrap ((top : Int) + (d : Int)) = (top : Int) + (d : Int) from IntWalk.i64_in _ (by omega))
          have HHL := Lib.hid (show (hdP T1 ++ (hdP (All.take d) ++ hdP (Rr.drop d))).length = top + (d + (Rr.length - d)) by simp only [List.length_append, hdP_length, List.length_drop, List.length_take, HT1.out]; omega)
          go_upto_region 25 with (fail)
          refine wp_region_stage (w0 := w0) (os := (.pile P :: .lines (.slice Ag k cg) G :: .box b7 31 (pv q) :: os)) (by kernel_rfl) (by kernel_rfl) (by kernel_rfl) [(0, 13, [], fun vs => .heads (.slice (some ⟨gr, 0, none⟩) L.length c) (List.set (hdP T1 ++ (hdP (All.take d) ++ hdP (Rr.drop d))) (top + d) (All[d].1, All[d].2.2)))] [[], [], [], [2], [], [3], [], [], [], [], [], [1], [], [0]] [.heads (.slice (some ⟨gr, 0, none⟩) L.length c) (hdP T1 ++ (hdP (All.take d) ++ hdP (Rr.drop d))), .heads (.slice (some ⟨ga, 0, none⟩) many ca) (hdP All), .box x 63 #[.int .i64 ↑cols, .slice (some ⟨gr, 0, none⟩) L.length c], .box b5 23 #[.int .i64 ↑top, .int .i64 ↑bot]] (fun i u => match i with | 0 => u = (.pointer (some ⟨x, 0, none⟩) : Value) | 1 => u = (.pointer (some ⟨x, 0, none⟩) : Value) | 2 => u = (.pointer (some ⟨x, 1, none⟩) : Value) | 3 => u = (.slice (some ⟨gr, 0, none⟩) L.length c : Value) | 4 => u = (.pointer (some ⟨b5, 0, none⟩) : Value) | 5 => u = (.int .i64 ↑top : Value) | 6 => u = (.int .i64 ↑d : Value) | 7 => u = (.int .i64 (↑top + ↑d) : Value) | 8 => u = (.slice (some ⟨ga, 0, none⟩) many ca : Value) | 9 => u = (.int .i64 ↑d : Value) | 10 => u = (.pointer (some ⟨ga, d * 2, none⟩) : Value) | 11 => u = (.agg #[All[d].1, .bool All[d].2.2] : Value) | 12 => u = (.pointer (some ⟨gr, (top + d) * 2, none⟩) : Value) | 13 => True | _ => True) (fun vs => [.heads (.slice (some ⟨gr, 0, none⟩) L.length c) (List.set (hdP T1 ++ (hdP (All.take d) ++ hdP (Rr.drop d))) (top + d) (All[d].1, All[d].2.2)), .heads (.slice (some ⟨ga, 0, none⟩) many ca) (hdP All), .box x 63 #[.int .i64 ↑cols, .slice (some ⟨gr, 0, none⟩) L.length c], .box b5 23 #[.int .i64 ↑top, .int .i64 ↑bot]]) (by kernel_rfl) (fun vs => by rfl) S8.out ?_ ?_
          · refine SSteps.cons (fun a w' vs σ hS hl hs hk => ?_) ?_
            · have e0 : a.tmps.getD 0 undef = (.pointer (some ⟨x, 0, none⟩) : Value) := (sk_old hk 0 (by kernel_rfl)).trans rfl
              have f0 := gd e0
              exact ro_pure (v := .pointer (some ⟨x, 0, none⟩)) (wanted_none rfl) (by simp [execOp, Act.eval, e0, f0, go_sem]) (sp_same (by kernel_rfl) hl hs hS (show (.pointer (some ⟨x, 0, none⟩) : Value) = _ from rfl)) trivial
            refine SSteps.cons (fun a w' vs σ hS hl hs hk => ?_) ?_
            · have e108 : a.tmps.getD 108 undef = (.pointer (some ⟨x, 0, none⟩) : Value) := (sk_val hk 0 (by kernel_rfl) rfl rfl).trans ((hk.1 0 (by kernel_rfl)).1)
              have f108 := gd e108
              exact ro_pure (v := .pointer (some ⟨x, 0, none⟩)) (wanted_none rfl) (by simp [execOp, Act.eval, e108, f108, go_sem]) (sp_same (by kernel_rfl) hl hs hS (show (.pointer (some ⟨x, 0, none⟩) : Value) = _ from rfl)) trivial
            refine SSteps.cons (fun a w' vs σ hS hl hs hk => ?_) ?_
            · have e109 : a.tmps.getD 109 undef = (.pointer (some ⟨x, 0, none⟩) : Value) := (sk_val hk 1 (by kernel_rfl) rfl rfl).trans ((hk.1 1 (by kernel_rfl)).1)
              have f109 := gd e109
              exact ro_pure (v := .pointer (some ⟨x, 1, none⟩)) (wanted_none rfl) (by simp [execOp, Act.eval, e109, f109, go_sem]) (sp_same (by kernel_rfl) hl hs hS (show (.pointer (some ⟨x, 1, none⟩) : Value) = _ from rfl)) trivial
            refine SSteps.cons (fun a w' vs σ hS hl hs hk => ?_) ?_
            · have e110 : a.tmps.getD 110 undef = (.pointer (some ⟨x, 1, none⟩) : Value) := (sk_val hk 2 (by kernel_rfl) rfl rfl).trans ((hk.1 2 (by kernel_rfl)).1)
              have f110 := gd e110
              have hx := (hS.box (sg (hs 2 (by decide)))).cell
              exact ro_pure (v := .slice (some ⟨gr, 0, none⟩) L.length c) (wanted_none rfl) (by simp [execOp, Act.eval, e110, f110, go_sem, hx]) (sp_same (by kernel_rfl) hl hs hS (show (.slice (some ⟨gr, 0, none⟩) L.length c : Value) = _ from rfl)) trivial
            refine SSteps.cons (fun a w' vs σ hS hl hs hk => ?_) ?_
            · have e5 : a.tmps.getD 5 undef = (.pointer (some ⟨b5, 0, none⟩) : Value) := (sk_old hk 5 (by kernel_rfl)).trans rfl
              have f5 := gd e5
              exact ro_pure (v := .pointer (some ⟨b5, 0, none⟩)) (wanted_none rfl) (by simp [execOp, Act.eval, e5, f5, go_sem]) (sp_same (by kernel_rfl) hl hs hS (show (.pointer (some ⟨b5, 0, none⟩) : Value) = _ from rfl)) trivial
            refine SSteps.cons (fun a w' vs σ hS hl hs hk => ?_) ?_
            · have e112 : a.tmps.getD 112 undef = (.pointer (some ⟨b5, 0, none⟩) : Value) := (sk_val hk 4 (by kernel_rfl) rfl rfl).trans ((hk.1 4 (by kernel_rfl)).1)
              have f112 := gd e112
              have hx := (hS.box (sg (hs 3 (by decide)))).cell
              exact ro_pure (v := .int .i64 ↑top) (wanted_none rfl) (by simp [execOp, Act.eval, e112, f112, go_sem, hx]) (sp_same (by kernel_rfl) hl hs hS (show (.int .i64 ↑top : Value) = _ from rfl)) trivial
            refine SSteps.cons (fun a w' vs σ hS hl hs hk => ?_) ?_
            · have e17 : a.tmps.getD 17 undef = (.int .i64 ↑d : Value) := (sk_old hk 17 (by kernel_rfl)).trans rfl
              have f17 := gd e17
              exact ro_pure (v := .int .i64 ↑d) (wanted_none rfl) (by simp [execOp, Act.eval, e17, f17, go_sem]) (sp_same (by kernel_rfl) hl hs hS (show (.int .i64 ↑d : Value) = _ from rfl)) trivial
            refine SSteps.cons (fun a w' vs σ hS hl hs hk => ?_) ?_
            · have e113 : a.tmps.getD 113 undef = (.int .i64 ↑top : Value) := (sk_val hk 5 (by kernel_rfl) rfl rfl).trans ((hk.1 5 (by kernel_rfl)).1)
              have f113 := gd e113
              have e114 : a.tmps.getD 114 undef = (.int .i64 ↑d : Value) := (sk_val hk 6 (by kernel_rfl) rfl rfl).trans ((hk.1 6 (by kernel_rfl)).1)
              have f114 := gd e114
              exact ro_pure (v := .int .i64 (↑top + ↑d)) (wanted_none rfl) (by simp [execOp, Act.eval, e113, f113, e114, f114, go_sem, HWD.out]) (sp_same (by kernel_rfl) hl hs hS (show (.int .i64 (↑top + ↑d) : Value) = _ from rfl)) trivial
            refine SSteps.cons (fun a w' vs σ hS hl hs hk => ?_) ?_
            · have e16 : a.tmps.getD 16 undef = (.slice (some ⟨ga, 0, none⟩) many ca : Value) := (sk_old hk 16 (by kernel_rfl)).trans rfl
              have f16 := gd e16
              exact ro_pure (v := .slice (some ⟨ga, 0, none⟩) many ca) (wanted_none rfl) (by simp [execOp, Act.eval, e16, f16, go_sem]) (sp_same (by kernel_rfl) hl hs hS (show (.slice (some ⟨ga, 0, none⟩) many ca : Value) = _ from rfl)) trivial
            refine SSteps.cons (fun a w' vs σ hS hl hs hk => ?_) ?_
            · have e17 : a.tmps.getD 17 undef = (.int .i64 ↑d : Value) := (sk_old hk 17 (by kernel_rfl)).trans rfl
              have f17 := gd e17
              exact ro_pure (v := .int .i64 ↑d) (wanted_none rfl) (by simp [execOp, Act.eval, e17, f17, go_sem]) (sp_same (by kernel_rfl) hl hs hS (show (.int .i64 ↑d : Value) = _ from rfl)) trivial
            refine SSteps.cons (fun a w' vs σ hS hl hs hk => ?_) ?_
            · have e116 : a.tmps.getD 116 undef = (.slice (some ⟨ga, 0, none⟩) many ca : Value) := (sk_val hk 8 (by kernel_rfl) rfl rfl).trans ((hk.1 8 (by kernel_rfl)).1)
              have f116 := gd e116
              have e117 : a.tmps.getD 117 undef = (.int .i64 ↑d : Value) := (sk_val hk 9 (by kernel_rfl) rfl rfl).trans ((hk.1 9 (by kernel_rfl)).1)
              have f117 := gd e117
              exact ro_pure (v := .pointer (some ⟨ga, d * 2, none⟩)) (wanted_none rfl) (by simp [execOp, Act.eval, e116, f116, e117, f117, go_sem, hdz, hdz2]) (sp_same (by kernel_rfl) hl hs hS (show (.pointer (some ⟨ga, d * 2, none⟩) : Value) = _ from rfl)) trivial
            refine SSteps.cons (fun a w' vs σ hS hl hs hk => ?_) ?_
            · have e118 : a.tmps.getD 118 undef = (.pointer (some ⟨ga, d * 2, none⟩) : Value) := (sk_val hk 10 (by kernel_rfl) rfl rfl).trans ((hk.1 10 (by kernel_rfl)).1)
              have f118 := gd e118
              have h1 : σ[1]? = some (.heads (.slice (some ⟨ga, 0, none⟩) many ca) (hdP All)) := hs 1 (by decide)
              obtain ⟨A8, c8, e8, -, -, -, hg8⟩ := hS.headsForm (sg h1)
              simp only [Value.slice.injEq] at e8
              obtain ⟨rfl, -, rfl⟩ := e8
              obtain ⟨g8, e9, hz, hcs, hf⟩ := hg8 (by rw [hdP_length]; omega)
              cases e9
              obtain ⟨hx, hx'⟩ := hcs d (All[d].1, All[d].2.2) (by simp [hdP, hdA])
              exact ro_pure (v := .agg #[All[d].1, .bool All[d].2.2]) (wanted_none rfl) (by simp [execOp, Act.eval, e118, f118, hx, hx', go_sem]) (sp_same (by kernel_rfl) hl hs hS rfl) trivial
            refine SSteps.cons (fun a w' vs σ hS hl hs hk => ?_) ?_
            · have e111 : a.tmps.getD 111 undef = (.slice (some ⟨gr, 0, none⟩) L.length c : Value) := (sk_val hk 3 (by kernel_rfl) rfl rfl).trans ((hk.1 3 (by kernel_rfl)).1)
              have f111 := gd e111
              have e115 : a.tmps.getD 115 undef = (.int .i64 (↑top + ↑d) : Value) := (sk_val hk 7 (by kernel_rfl) rfl rfl).trans ((hk.1 7 (by kernel_rfl)).1)
              have f115 := gd e115
              exact ro_pure (v := .pointer (some ⟨gr, (top + d) * 2, none⟩)) (wanted_none rfl) (by simp [execOp, Act.eval, e111, f111, e115, f115, go_sem, htz, htz2, htn]) (sp_same (by kernel_rfl) hl hs hS (show (.pointer (some ⟨gr, (top + d) * 2, none⟩) : Value) = _ from rfl)) trivial
            refine SSteps.cons (fun a w' vs σ hS hl hs hk => ?_) ?_
            · have e120 : a.tmps.getD 120 undef = (.pointer (some ⟨gr, (top + d) * 2, none⟩) : Value) := (sk_val hk 12 (by kernel_rfl) rfl rfl).trans ((hk.1 12 (by kernel_rfl)).1)
              have f120 := gd e120
              have e119 : a.tmps.getD 119 undef = (.agg #[All[d].1, .bool All[d].2.2] : Value) := (sk_val hk 11 (by kernel_rfl) rfl rfl).trans ((hk.1 11 (by kernel_rfl)).1)
              have f119 := gd e119
              have h1 : σ[0]? = some (.heads (.slice (some ⟨gr, 0, none⟩) L.length c) (hdP T1 ++ (hdP (All.take d) ++ hdP (Rr.drop d)))) := hs 0 (by decide)
              obtain ⟨A8, c8, e8, -, -, -, hg8⟩ := hS.headsForm (sg h1)
              simp only [Value.slice.injEq] at e8
              obtain ⟨rfl, -, rfl⟩ := e8
              have hHl := HHL.out
              obtain ⟨g8, e9, hz, hcs, hf⟩ := hg8 (by omega)
              cases e9
              obtain ⟨x8, hx8⟩ := get_of (show top + d < (hdP T1 ++ (hdP (All.take d) ++ hdP (Rr.drop d))).length by omega)
              obtain ⟨hx, hx'⟩ := hcs (top + d) x8 hx8
              exact rstep_store (w2 := (w'.setCell ⟨gr, (top + d) * 2, none⟩ All[d].1).setCell ⟨gr, (top + d) * 2 + 1, none⟩ (.bool All[d].2.2)) (wanted_none rfl) rfl (by simp [execOp, Act.eval, e120, f120, e119, f119, hsl, hx, hx', hf, hz, go_sem]) (sp_set 0 (.heads (.slice (some ⟨gr, 0, none⟩) L.length c) (List.set (hdP T1 ++ (hdP (All.take d) ++ hdP (Rr.drop d))) (top + d) (All[d].1, All[d].2.2))) (by kernel_rfl) (by simp) (by decide) hl hs (by rfl) (hS.storeHead (sg h1)) trivial) trivial
            exact SSteps.nil
          · intro vs w' hS hv
            have q0 := (show vs 0 = (.pointer (some ⟨x, 0, none⟩) : Value) from hv 0 (by decide))
            have q1 := (show vs 1 = (.pointer (some ⟨x, 0, none⟩) : Value) from hv 1 (by decide))
            have q2 := (show vs 2 = (.pointer (some ⟨x, 1, none⟩) : Value) from hv 2 (by decide))
            have q3 := (show vs 3 = (.slice (some ⟨gr, 0, none⟩) L.length c : Value) from hv 3 (by decide))
            have q4 := (show vs 4 = (.pointer (some ⟨b5, 0, none⟩) : Value) from hv 4 (by decide))
            have q5 := (show vs 5 = (.int .i64 ↑top : Value) from hv 5 (by decide))
            have q6 := (show vs 6 = (.int .i64 ↑d : Value) from hv 6 (by decide))
            have q7 := (show vs 7 = (.int .i64 (↑top + ↑d) : Value) from hv 7 (by decide))
            have q8 := (show vs 8 = (.slice (some ⟨ga, 0, none⟩) many ca : Value) from hv 8 (by decide))
            have q9 := (show vs 9 = (.int .i64 ↑d : Value) from hv 9 (by decide))
            have q10 := (show vs 10 = (.pointer (some ⟨ga, d * 2, none⟩) : Value) from hv 10 (by decide))
            have q11 := (show vs 11 = (.agg #[All[d].1, .bool All[d].2.2] : Value) from hv 11 (by decide))
            have q12 := (show vs 12 = (.pointer (some ⟨gr, (top + d) * 2, none⟩) : Value) from hv 12 (by decide))
            have S2 := Lib.hid hS
            simp only [putL, Act.put, Nat.zero_add, Nat.reduceAdd, List.setIfInBounds_toArray, List.set_cons_succ, List.set_cons_zero, q0, q1, q2, q3, q4, q5, q6, q7, q8, q9, q10, q11, q12]
            clear hS hv q0 q1 q2 q3 q4 q5 q6 q7 q8 q9 q10 q11 q12
            have S9 := S2.out
            rw [hdP_fill All[d].1 All[d].2.1 All[d].2.2 HT1.out (by rw [List.length_take]; omega) hdR, show All.take d ++ [(All[d].1, All[d].2.1, All[d].2.2)] = All.take (d + 1) from (List.take_succ_eq_append_getElem hdA).symm] at S9
            have S10 := Lib.hid S9
            clear S9 S2
            go_wp2_with fail
            go_roundw
            case rel => exact ⟨d + 1, by omega, by go_num, S10.out⟩
            case measure => simp [intOf]; omega
  · subst h2
    have hnl : ¬ n < (k : Int) := by omega
    have HPOSN := Lib.hid hn
    by_cases hcap : c - top = k
    · have hmi := HMI.out
      go_wp2_with fail
      go_loopw [11, 12] (fun u11 vi wr => ∃ (d : Nat) (vf : Value), d ≤ k ∧ vf = u11 ∧ vi = .int .i64 d ∧ Objs w0 wr (.lines vf (rollFresh d cols q) :: .box b7 31 (pv q) :: .box x 63 #[.int .i64 cols, .slice (some ⟨gr, 0, none⟩) L.length c] :: .lines (.slice (some ⟨gr, 0, none⟩) L.length c) L :: .box b5 23 #[.int .i64 top, .int .i64 bot] :: os)) (fun _ vi _ => k - (intOf vi).toNat)
      case atStart => exact ⟨0, _, by omega, rfl, rfl, S1.out⟩
      case round =>
        obtain ⟨d, vf, hdk, rfl, rfl, hS⟩ := hrel
        have S2 := Lib.hid hS
        clear hS S1
        by_cases hlt : d < k
        · have SZ := Lib.hid S2.out.pad.pad
          clear S2
          go_upto_region 11 with (fail)
          refine wp_region_stage (w0 := w0) (os := (.lines (.slice (some ⟨gr, 0, none⟩) L.length c) L :: .box b5 23 #[.int .i64 ↑top, .int .i64 ↑bot] :: os)) (by kernel_rfl) (by kernel_rfl) (by kernel_rfl) [(0, 6, [6], fun vs => .cells (lineV (vs 6)) (List.replicate cols (blank q))), (1, 7, [6, 7], fun vs => .box (blkOf (vs 7)) 79 #[lineV (vs 6), .bool false]), (2, 8, [8], fun vs => .lines (vs 8) (rollFresh (d + 1) cols q)), (0, 8, [], fun vs => .none), (2, 9, [9], fun vs => .lines (vs 9) (rollFresh (d + 1) cols q))] [[], [], [], [], [4], [3], [0], [1], [0, 1, 2], [2]] [.none, .none, .lines vf (rollFresh d cols q), .box b7 31 (pv q), .box x 63 #[.int .i64 ↑cols, .slice (some ⟨gr, 0, none⟩) L.length c]] (fun i u => match i with | 0 => u = (vf : Value) | 1 => u = (.pointer (some ⟨x, 0, none⟩) : Value) | 2 => u = (.pointer (some ⟨x, 0, none⟩) : Value) | 3 => u = (.pointer (some ⟨x, 0, none⟩) : Value) | 4 => u = (.int .i64 ↑cols : Value) | 5 => u = (.agg (pv q) : Value) | 6 => ∃ y, u = .agg #[y, .bool false] | 7 => ∃ g, u = .slice (some ⟨g, 0, none⟩) 1 1 | 8 => ∃ A m c, u = .slice A m c | 9 => ∃ A m c, u = .slice A m c | _ => True) (fun vs => [.none, .box (blkOf (vs 7)) 79 #[lineV (vs 6), .bool false], .lines (vs 9) (rollFresh (d + 1) cols q), .box b7 31 (pv q), .box x 63 #[.int .i64 ↑cols, .slice (some ⟨gr, 0, none⟩) L.length c]]) (by kernel_rfl) (fun vs => by rfl) SZ.out ?_ ?_
          · refine SSteps.cons (fun a w' vs σ hS hl hs hk => ?_) ?_
            · have e11 : a.tmps.getD 11 undef = (vf : Value) := (sk_later hk 9 (by kernel_rfl) rfl rfl).trans rfl
              have f11 := gd e11
              exact ro_pure (v := vf) (wanted_none rfl) (by simp [execOp, Act.eval, e11, f11, go_sem]) (sp_same (by kernel_rfl) hl hs hS (show (vf : Value) = _ from rfl)) trivial
            refine SSteps.cons (fun a w' vs σ hS hl hs hk => ?_) ?_
            · have e0 : a.tmps.getD 0 undef = (.pointer (some ⟨x, 0, none⟩) : Value) := (sk_old hk 0 (by kernel_rfl)).trans rfl
              have f0 := gd e0
              exact ro_pure (v := .pointer (some ⟨x, 0, none⟩)) (wanted_none rfl) (by simp [execOp, Act.eval, e0, f0, go_sem]) (sp_same (by kernel_rfl) hl hs hS (show (.pointer (some ⟨x, 0, none⟩) : Value) = _ from rfl)) trivial
            refine SSteps.cons (fun a w' vs σ hS hl hs hk => ?_) ?_
            · have e46 : a.tmps.getD 46 undef = (.pointer (some ⟨x, 0, none⟩) : Value) := (sk_val hk 1 (by kernel_rfl) rfl rfl).trans ((hk.1 1 (by kernel_rfl)).1)
              have f46 := gd e46
              exact ro_pure (v := .pointer (some ⟨x, 0, none⟩)) (wanted_none rfl) (by simp [execOp, Act.eval, e46, f46, go_sem]) (sp_same (by kernel_rfl) hl hs hS (show (.pointer (some ⟨x, 0, none⟩) : Value) = _ from rfl)) trivial
            refine SSteps.cons (fun a w' vs σ hS hl hs hk => ?_) ?_
            · have e47 : a.tmps.getD 47 undef = (.pointer (some ⟨x, 0, none⟩) : Value) := (sk_val hk 2 (by kernel_rfl) rfl rfl).trans ((hk.1 2 (by kernel_rfl)).1)
              have f47 := gd e47
              exact ro_pure (v := .pointer (some ⟨x, 0, none⟩)) (wanted_none rfl) (by simp [execOp, Act.eval, e47, f47, go_sem]) (sp_same (by kernel_rfl) hl hs hS (show (.pointer (some ⟨x, 0, none⟩) : Value) = _ from rfl)) trivial
            refine SSteps.cons (fun a w' vs σ hS hl hs hk => ?_) ?_
            · have e48 : a.tmps.getD 48 undef = (.pointer (some ⟨x, 0, none⟩) : Value) := (sk_val hk 3 (by kernel_rfl) rfl rfl).trans ((hk.1 3 (by kernel_rfl)).1)
              have f48 := gd e48
              have hx := (hS.box (sg (hs 4 (by decide)))).cell
              exact ro_pure (v := .int .i64 ↑cols) (wanted_none rfl) (by simp [execOp, Act.eval, e48, f48, go_sem, hx]) (sp_same (by kernel_rfl) hl hs hS (show (.int .i64 ↑cols : Value) = _ from rfl)) trivial
            refine SSteps.cons (fun a w' vs σ hS hl hs hk => ?_) ?_
            · have e7 : a.tmps.getD 7 undef = (.pointer (some ⟨b7, 0, none⟩) : Value) := (sk_old hk 7 (by kernel_rfl)).trans rfl
              have f7 := gd e7
              have hx := (hS.box (sg (hs 3 (by decide)))).penAt
              exact ro_pure (v := .agg (pv q)) (wanted_none rfl) (by simp [execOp, Act.eval, e7, f7, go_sem, hx]) (sp_same (by kernel_rfl) hl hs hS (show (.agg (pv q) : Value) = _ from rfl)) trivial
            refine SSteps.cons (fun a w' vs σ hS hl hs hk => ?_) ?_
            · have e49 : a.tmps.getD 49 undef = (.int .i64 ↑cols : Value) := (sk_val hk 4 (by kernel_rfl) rfl rfl).trans ((hk.1 4 (by kernel_rfl)).1)
              have f49 := gd e49
              have e50 : a.tmps.getD 50 undef = (.agg (pv q) : Value) := (sk_val hk 5 (by kernel_rfl) rfl rfl).trans ((hk.1 5 (by kernel_rfl)).1)
              have f50 := gd e50
              have h0 : σ[0]? = some .none := hs 0 (by decide)
              exact ro_call (f := 78) (wanted_none rfl) rfl (by simp only [List.map_toArray, List.map_cons, List.map_nil, Act.eval, e49, e50] <;> rfl) (fun _ _ => by kernel_rfl) ((r14Blanks_any cols (by omega) q w0 w' _ hS).mono fun e w2 ⟨y, h1, h2⟩ => ⟨_, h1, sp_set 0 (.cells y (List.replicate cols (blank q))) (by kernel_rfl) (by simp) (by decide) hl hs (by rfl) (h2.place (sg h0)) ⟨y, rfl⟩, trivial⟩)
            refine SSteps.cons (fun a w' vs σ hS hl hs hk => ?_) ?_
            · have e51 : a.tmps.getD 51 undef = vs 6 := sk_val hk 6 (by kernel_rfl) rfl rfl
              have p51 : (fun u : Value => ∃ y, u = .agg #[y, .bool false]) (vs 6) := (hk.1 6 (by kernel_rfl)).1
              have f51 := gd e51
              obtain ⟨y, hx⟩ := p51
              have e9 := e51.trans hx
              have f9 := gd e9
              have h1 : σ[1]? = some .none := hs 1 (by decide)
              exact rs_run (wanted_none rfl) (exec_bsl rfl (by simp [Act.eval, e9, f9]) (run_bsl y false w')) (sp_set 1 (.box w'.heap.size 79 #[y, .bool false]) (by kernel_rfl) (by simp) (by decide) hl hs (by show Ob.box (blkOf (.slice (some ⟨w'.heap.size, 0, none⟩) 1 1)) 79 #[lineV (vs 6), .bool false] = _; rw [hx]; rfl) (hS.alloc1.place (sg h1)) ⟨_, rfl⟩)
            refine SSteps.cons (fun a w' vs σ hS hl hs hk => ?_) ?_
            · have e45 : a.tmps.getD 45 undef = (vf : Value) := (sk_val hk 0 (by kernel_rfl) rfl rfl).trans ((hk.1 0 (by kernel_rfl)).1)
              have f45 := gd e45
              have e52 : a.tmps.getD 52 undef = vs 7 := sk_val hk 7 (by kernel_rfl) rfl rfl
              have p52 : (fun u : Value => ∃ g, u = .slice (some ⟨g, 0, none⟩) 1 1) (vs 7) := (hk.1 7 (by kernel_rfl)).1
              have f52 := gd e52
              have h2 : σ[2]? = some (.lines vf (rollFresh d cols q)) := hs 2 (by decide)
              have h0 : σ[0]? = some (.cells (lineV (vs 6)) (List.replicate cols (blank q))) := hs 0 (by decide)
              have h1 : σ[1]? = some (.box (blkOf (vs 7)) 79 #[lineV (vs 6), .bool false]) := hs 1 (by decide)
              obtain ⟨g8, hg8⟩ := p52
              rw [hg8, show blkOf (.slice (some ⟨g8, 0, none⟩) 1 1) = g8 from rfl] at h1
              obtain ⟨v9, w9, hr, hS2, A9, c9, hv9⟩ := run_appL hS (k := 2) (j := 0) (ad := ⟨g8, 0, none⟩) (c := 1) (s := false) (sg h2) (sg h0) (by decide) (by rw [(hS.box (sg h1)).cell]; rfl) (by rw [add_at, (hS.box (sg h1)).cell]; rfl) (by simp [rollFresh]; omega) 35
              rw [show rollFresh d cols q ++ [((List.replicate cols (blank q)), false)] = (rollFresh (d + 1) cols q) from (List.replicate_succ' ..).symm] at hS2
              exact rs_run (wanted_none rfl) (exec_app rfl (by simp only [Act.eval]; exact e45) (by simp only [Act.eval]; exact e52.trans hg8) hr) (sp_set2 2 0 (.lines v9 (rollFresh (d + 1) cols q)) .none (by decide) (by kernel_rfl) (by simp) (by simp) (by decide) (by decide) hl hs (by rfl) (by rfl) hS2 ⟨A9, _, c9, hv9⟩)
            refine SSteps.cons (fun a w' vs σ hS hl hs hk => ?_) ?_
            · have e53 : a.tmps.getD 53 undef = vs 8 := sk_val hk 8 (by kernel_rfl) rfl rfl
              have p53 : (fun u : Value => ∃ A m c, u = .slice A m c) (vs 8) := (hk.1 8 (by kernel_rfl)).1
              have f53 := gd e53
              obtain ⟨A9, n9, c9, q9⟩ := p53
              have e9 := e53.trans q9
              have f9 := gd e9
              have h2 : σ[2]? = some (.lines (vs 8) (rollFresh (d + 1) cols q)) := hs 2 (by decide)
              rw [q9] at h2
              have hSS : Objs w0 w' ((σ ++ (.lines (.slice (some ⟨gr, 0, none⟩) L.length c) L :: .box b5 23 #[.int .i64 ↑top, .int .i64 ↑bot] :: os)).set 2 (.lines (.slice A9 n9 c9) (rollFresh (d + 1) cols q))) := by rw [set_self (sg h2)]; exact hS
              exact rs_run (v' := .slice A9 n9 c9) (w' := w') (wanted_none rfl) (by simp [execOp, Act.eval, e9, f9, go_sem]) (sp_set 2 (.lines (.slice A9 n9 c9) (rollFresh (d + 1) cols q)) (by kernel_rfl) (by simp) (by decide) hl hs (by rfl) hSS ⟨A9, n9, c9, rfl⟩)
            exact SSteps.nil
          · intro vs w' hS hv
            have q0 := (show vs 0 = (vf : Value) from hv 0 (by decide))
            have q1 := (show vs 1 = (.pointer (some ⟨x, 0, none⟩) : Value) from hv 1 (by decide))
            have q2 := (show vs 2 = (.pointer (some ⟨x, 0, none⟩) : Value) from hv 2 (by decide))
            have q3 := (show vs 3 = (.pointer (some ⟨x, 0, none⟩) : Value) from hv 3 (by decide))
            have q4 := (show vs 4 = (.int .i64 ↑cols : Value) from hv 4 (by decide))
            have q5 := (show vs 5 = (.agg (pv q) : Value) from hv 5 (by decide))
            have S2 := Lib.hid hS
            simp only [putL, Act.put, Nat.zero_add, Nat.reduceAdd, List.setIfInBounds_toArray, List.set_cons_succ, List.set_cons_zero, q0, q1, q2, q3, q4, q5]
            clear hS hv q0 q1 q2 q3 q4 q5
            go_wp2_with fail
            go_roundw
            case rel => exact ⟨d + 1, vs 9, by omega, rfl, by go_num, (S2.out.del 0).del 0⟩
            case measure => simp [intOf]; omega
        obtain rfl : k = d := by omega
        have S3 := Lib.hid (ord_b S2.out)
        obtain ⟨hxx, hfx, hzx⟩ := (S3.out.box (k := 3) rfl).facts
        clear hx5 hf5 hz5
        obtain ⟨hx5, hf5, hz5⟩ := (S3.out.box (k := 4) rfl).facts
        clear S2
        go_wp2_with fail
        refine wp_region_below (by kernel_rfl) (by kernel_rfl) ?_
        repeat (go_big_quiet_step (fail))
        refine wpQuiet_nil ?_
        intro w2 hb2
        have SZ := Lib.hid (S3.out.bel hb2).pad.pad
        clear hxx hfx hzx hx5 hf5 hz5 S3 hb2
        simp only [HBI.out]
        have hkz : (0 : Int) ≤ (k : Int) := by omega
        have hkz2 : (k : Int) ≤ (k : Int) := by omega
        have hkz3 : k ≤ c - top := by omega
        have hkz4 : c - top = k := hcap
        go_wp2_with fail
        refine wp_region_stage (w0 := w0) (os := (.lines vf (rollFresh k cols q) :: .box b7 31 (pv q) :: .box x 63 #[.int .i64 ↑cols, .slice (some ⟨gr, 0, none⟩) L.length c] :: .box b5 23 #[.int .i64 ↑top, .int .i64 ↑bot] :: os)) (by kernel_rfl) (by kernel_rfl) (by kernel_rfl) [(0, 3, [3], fun vs => .lines (vs 3) ((L.drop top).take k)), (1, 7, [7], fun vs => .lines (vs 7) ([] : List Ln)), (0, 8, [8], fun vs => .lines (vs 8) ((L.drop top).take k)), (1, 9, [9], fun vs => .lines (vs 9) ([] : List Ln))] [[], [], [], [0, 2], [], [], [], [1, 2], [0], [1]] [.none, .none, .lines (.slice (some ⟨gr, 0, none⟩) L.length c) L] (fun i u => match i with | 0 => u = (.slice (some ⟨gr, top * 2, none⟩) k (k) : Value) | 1 => u = (.int .i64 ↑k : Value) | 2 => u = (.slice (some ⟨gr, top * 2, none⟩) k (k) : Value) | 3 => ∃ A m c, u = .slice A m c | 4 => u = (.slice (some ⟨gr, top * 2, none⟩) k (k) : Value) | 5 => u = (.int .i64 ↑k : Value) | 6 => u = (.slice (some ⟨gr, top * 2, none⟩) 0 (0) : Value) | 7 => ∃ A m c, u = .slice A m c | 8 => ∃ A m c, u = .slice A m c | 9 => ∃ A m c, u = .slice A m c | _ => True) (fun vs => [.lines (vs 8) ((L.drop top).take k), .lines (vs 9) ([] : List Ln), .lines (.slice (some ⟨gr, 0, none⟩) L.length c) L]) (by kernel_rfl) (fun vs => by rfl) SZ.out ?_ ?_
        · refine SSteps.cons (fun a w' vs σ hS hl hs hk => ?_) ?_
          · have e13 : a.tmps.getD 13 undef = (.slice (some ⟨gr, top * 2, none⟩) k (k) : Value) := (sk_old hk 13 (by kernel_rfl)).trans rfl
            have f13 := gd e13
            exact ro_pure (v := .slice (some ⟨gr, top * 2, none⟩) k (k)) (wanted_none rfl) (by simp [execOp, Act.eval, e13, f13, go_sem]) (sp_same (by kernel_rfl) hl hs hS (show (.slice (some ⟨gr, top * 2, none⟩) k (k) : Value) = _ from rfl)) trivial
          refine SSteps.cons (fun a w' vs σ hS hl hs hk => ?_) ?_
          · have e10 : a.tmps.getD 10 undef = (.int .i64 ↑k : Value) := (sk_old hk 10 (by kernel_rfl)).trans rfl
            have f10 := gd e10
            exact ro_pure (v := .int .i64 ↑k) (wanted_none rfl) (by simp [execOp, Act.eval, e10, f10, go_sem]) (sp_same (by kernel_rfl) hl hs hS (show (.int .i64 ↑k : Value) = _ from rfl)) trivial
          refine SSteps.cons (fun a w' vs σ hS hl hs hk => ?_) ?_
          · have e66 : a.tmps.getD 66 undef = (.slice (some ⟨gr, top * 2, none⟩) k (k) : Value) := (sk_val hk 0 (by kernel_rfl) rfl rfl).trans ((hk.1 0 (by kernel_rfl)).1)
            have f66 := gd e66
            have e67 : a.tmps.getD 67 undef = (.int .i64 ↑k : Value) := (sk_val hk 1 (by kernel_rfl) rfl rfl).trans ((hk.1 1 (by kernel_rfl)).1)
            have f67 := gd e67
            exact ro_pure (v := .slice (some ⟨gr, top * 2, none⟩) k (k)) (wanted_none rfl) (by simp [execOp, Act.eval, e66, f66, e67, f67, go_sem, hkz, hkz2, hkz3, hkz4]) (sp_same (by kernel_rfl) hl hs hS (show (.slice (some ⟨gr, top * 2, none⟩) k (k) : Value) = _ from rfl)) trivial
          refine SSteps.cons (fun a w' vs σ hS hl hs hk => ?_) ?_
          · have e68 : a.tmps.getD 68 undef = (.slice (some ⟨gr, top * 2, none⟩) k (k) : Value) := (sk_val hk 2 (by kernel_rfl) rfl rfl).trans ((hk.1 2 (by kernel_rfl)).1)
            have f68 := gd e68
            have hn : σ[0]? = some .none := hs 0 (by decide)
            have h2 : σ[2]? = some (.lines (.slice (some ⟨gr, 0, none⟩) L.length c) L) := hs 2 (by decide)
            have hrl := (hS.linesRd' (sg h2)).2.2
            exact ro_call (f := 85) (wanted_none rfl) rfl (by simp only [List.map_toArray, List.map_cons, List.map_nil, Act.eval, e68] <;> rfl) (fun _ _ => by kernel_rfl) ((copies_at (L := ((L.drop top).take k)) (by simp; omega) (hrl.part0 (by omega) (by omega)) (by simp; omega) (fun l hl => HMILL.out l (List.mem_of_mem_drop (List.mem_of_mem_take hl)))).mono fun e w2 ⟨y, h1, h2⟩ => ⟨_, h1, sp_set 0 (.lines y ((L.drop top).take k)) (by kernel_rfl) (by simp) (by decide) hl hs (by rfl) ((hS.nest h2).place (sg hn)) (by obtain ⟨A, c, e, -⟩ := h2.linesRd (k := 0) rfl; exact ⟨A, _, c, e⟩), trivial⟩)
          refine SSteps.cons (fun a w' vs σ hS hl hs hk => ?_) ?_
          · have e13 : a.tmps.getD 13 undef = (.slice (some ⟨gr, top * 2, none⟩) k (k) : Value) := (sk_old hk 13 (by kernel_rfl)).trans rfl
            have f13 := gd e13
            exact ro_pure (v := .slice (some ⟨gr, top * 2, none⟩) k (k)) (wanted_none rfl) (by simp [execOp, Act.eval, e13, f13, go_sem]) (sp_same (by kernel_rfl) hl hs hS (show (.slice (some ⟨gr, top * 2, none⟩) k (k) : Value) = _ from rfl)) trivial
          refine SSteps.cons (fun a w' vs σ hS hl hs hk => ?_) ?_
          · have e10 : a.tmps.getD 10 undef = (.int .i64 ↑k : Value) := (sk_old hk 10 (by kernel_rfl)).trans rfl
            have f10 := gd e10
            exact ro_pure (v := .int .i64 ↑k) (wanted_none rfl) (by simp [execOp, Act.eval, e10, f10, go_sem]) (sp_same (by kernel_rfl) hl hs hS (show (.int .i64 ↑k : Value) = _ from rfl)) trivial
          refine SSteps.cons (fun a w' vs σ hS hl hs hk => ?_) ?_
          · have e70 : a.tmps.getD 70 undef = (.slice (some ⟨gr, top * 2, none⟩) k (k) : Value) := (sk_val hk 4 (by kernel_rfl) rfl rfl).trans ((hk.1 4 (by kernel_rfl)).1)
            have f70 := gd e70
            have e71 : a.tmps.getD 71 undef = (.int .i64 ↑k : Value) := (sk_val hk 5 (by kernel_rfl) rfl rfl).trans ((hk.1 5 (by kernel_rfl)).1)
            have f71 := gd e71
            exact ro_pure (v := .slice (some ⟨gr, top * 2, none⟩) 0 (0)) (wanted_none rfl) (by simp [execOp, Act.eval, e70, f70, e71, f71, go_sem, hkz, hkz2, hkz3, hkz4]) (sp_same (by kernel_rfl) hl hs hS (show (.slice (some ⟨gr, top * 2, none⟩) 0 (0) : Value) = _ from rfl)) trivial
          refine SSteps.cons (fun a w' vs σ hS hl hs hk => ?_) ?_
          · have e72 : a.tmps.getD 72 undef = (.slice (some ⟨gr, top * 2, none⟩) 0 (0) : Value) := (sk_val hk 6 (by kernel_rfl) rfl rfl).trans ((hk.1 6 (by kernel_rfl)).1)
            have f72 := gd e72
            have hn : σ[1]? = some .none := hs 1 (by decide)
            have h2 : σ[2]? = some (.lines (.slice (some ⟨gr, 0, none⟩) L.length c) L) := hs 2 (by decide)
            have hrl := (hS.linesRd' (sg h2)).2.2
            exact ro_call (f := 85) (wanted_none rfl) rfl (by simp only [List.map_toArray, List.map_cons, List.map_nil, Act.eval, e72] <;> rfl) (fun _ _ => by kernel_rfl) ((copies_at (L := ([] : List Ln)) rfl (RdL.empty _ _ _) (by simp) (fun l hl => by simp at hl)).mono fun e w2 ⟨y, h1, h2⟩ => ⟨_, h1, sp_set 1 (.lines y ([] : List Ln)) (by kernel_rfl) (by simp) (by decide) hl hs (by rfl) ((hS.nest h2).place (sg hn)) (by obtain ⟨A, c, e, -⟩ := h2.linesRd (k := 0) rfl; exact ⟨A, _, c, e⟩), trivial⟩)
          refine SSteps.cons (fun a w' vs σ hS hl hs hk => ?_) ?_
          · have e69 : a.tmps.getD 69 undef = vs 3 := sk_val hk 3 (by kernel_rfl) rfl rfl
            have p69 : (fun u : Value => ∃ A m c, u = .slice A m c) (vs 3) := (hk.1 3 (by kernel_rfl)).1
            have f69 := gd e69
            obtain ⟨A9, n9, c9, q9⟩ := p69
            have e9 := e69.trans q9
            have f9 := gd e9
            have h2 : σ[0]? = some (.lines (vs 3) ((L.drop top).take k)) := hs 0 (by decide)
            rw [q9] at h2
            have hSS : Objs w0 w' ((σ ++ (.lines vf (rollFresh k cols q) :: .box b7 31 (pv q) :: .box x 63 #[.int .i64 ↑cols, .slice (some ⟨gr, 0, none⟩) L.length c] :: .box b5 23 #[.int .i64 ↑top, .int .i64 ↑bot] :: os)).set 0 (.lines (.slice A9 n9 c9) ((L.drop top).take k))) := by rw [set_self (sg h2)]; exact hS
            exact rs_run (v' := .slice A9 n9 c9) (w' := w') (wanted_none rfl) (by simp [execOp, Act.eval, e9, f9, go_sem]) (sp_set 0 (.lines (.slice A9 n9 c9) ((L.drop top).take k)) (by kernel_rfl) (by simp) (by decide) hl hs (by rfl) hSS ⟨A9, n9, c9, rfl⟩)
          refine SSteps.cons (fun a w' vs σ hS hl hs hk => ?_) ?_
          · have e73 : a.tmps.getD 73 undef = vs 7 := sk_val hk 7 (by kernel_rfl) rfl rfl
            have p73 : (fun u : Value => ∃ A m c, u = .slice A m c) (vs 7) := (hk.1 7 (by kernel_rfl)).1
            have f73 := gd e73
            obtain ⟨A9, n9, c9, q9⟩ := p73
            have e9 := e73.trans q9
            have f9 := gd e9
            have h2 : σ[1]? = some (.lines (vs 7) ([] : List Ln)) := hs 1 (by decide)
            rw [q9] at h2
            have hSS : Objs w0 w' ((σ ++ (.lines vf (rollFresh k cols q) :: .box b7 31 (pv q) :: .box x 63 #[.int .i64 ↑cols, .slice (some ⟨gr, 0, none⟩) L.length c] :: .box b5 23 #[.int .i64 ↑top, .int .i64 ↑bot] :: os)).set 1 (.lines (.slice A9 n9 c9) ([] : List Ln))) := by rw [set_self (sg h2)]; exact hS
            exact rs_run (v' := .slice A9 n9 c9) (w' := w') (wanted_none rfl) (by simp [execOp, Act.eval, e9, f9, go_sem]) (sp_set 1 (.lines (.slice A9 n9 c9) ([] : List Ln)) (by kernel_rfl) (by simp) (by decide) hl hs (by rfl) hSS ⟨A9, n9, c9, rfl⟩)
          exact SSteps.nil
        · intro vs w' hS hv
          have q0 := (show vs 0 = (.slice (some ⟨gr, top * 2, none⟩) k (k) : Value) from hv 0 (by decide))
          have q1 := (show vs 1 = (.int .i64 ↑k : Value) from hv 1 (by decide))
          have q2 := (show vs 2 = (.slice (some ⟨gr, top * 2, none⟩) k (k) : Value) from hv 2 (by decide))
          have q4 := (show vs 4 = (.slice (some ⟨gr, top * 2, none⟩) k (k) : Value) from hv 4 (by decide))
          have q5 := (show vs 5 = (.int .i64 ↑k : Value) from hv 5 (by decide))
          have q6 := (show vs 6 = (.slice (some ⟨gr, top * 2, none⟩) 0 (0) : Value) from hv 6 (by decide))
          obtain ⟨Ag, mg, cg, qg⟩ := (show ∃ A m c, vs 8 = .slice A m c from hv 8 (by decide))
          obtain ⟨As, ms, cs, qs⟩ := (show ∃ A m c, vs 9 = .slice A m c from hv 9 (by decide))
          rw [qg, qs] at hS
          obtain ⟨A1, n1, c1, q1⟩ := (show ∃ A m c, vs 3 = .slice A m c from hv 3 (by decide))
          obtain ⟨A2, n2, c2, q2⟩ := (show ∃ A m c, vs 7 = .slice A m c from hv 7 (by decide))
          have S2 := Lib.hid hS
          simp only [putL, Act.put, Nat.zero_add, Nat.reduceAdd, List.setIfInBounds_toArray, List.set_cons_succ, List.set_cons_zero, q0, q1, q2, q4, q5, q6]
          clear hS hv q0 q1 q2 q4 q5 q6
          simp only [qg, qs, q1, q2]
          have hGl0 : ((L.drop top).take k).length = k := by simp; omega
          have emg : k = mg := ((show Objs w0 w' (.lines (.slice Ag mg cg) ((L.drop top).take k) :: _) from S2.out).linesRd' (k := 0) rfl |>.1.trans hGl0).symm
          have ems : ms = 0 := (show Objs w0 w' (_ :: .lines (.slice As ms cs) ([] : List Ln) :: _) from S2.out).linesRd' (k := 1) rfl |>.1
          subst emg ems
          obtain ⟨G, hG⟩ : ∃ G, G = (L.drop top).take k := ⟨_, rfl⟩
          have hS2 := (show Objs w0 w' (.lines (.slice Ag k cg) G :: .lines (.slice As 0 cs) [] :: .lines (.slice (some ⟨gr, 0, none⟩) L.length c) L :: .lines vf (rollFresh k cols q) :: .box b7 31 (pv q) :: .box x 63 #[.int .i64 cols, .slice (some ⟨gr, 0, none⟩) L.length c] :: .box b5 23 #[.int .i64 top, .int .i64 bot] :: os) from by rw [hG]; exact S2.out)
          have HGONE := Lib.hid (show G = rollGone top bot n L by rw [hG]; exact rgone_pos hn HMANY.out HKK.out hkm)
          obtain ⟨T, Ts, Tf, ⟨hT, hTs, hTf⟩, hos, hof, hO⟩ := roll_open hS2
          have hSl : Ts.length = 0 := by rw [← lnP_length, hTs]; rfl
          have hFl : Tf.length = k := by rw [← lnP_length, hTf]; simp [rollFresh]
          have hTl : T.length = L.length := by rw [← lnP_length, hT]
          obtain ⟨Af, cf, ef, hcf, -, -, hgf⟩ := hO.headsForm (k := 2) rfl
          rw [hdP_length, hFl] at ef hcf hgf
          obtain ⟨gf, rfl, hgfz, -, -⟩ := hgf hk0
          subst ef
          clear hgf
          have HLEFT := Lib.hid (rleft_pos (T := T) (Ts := Ts) (Tf := Tf) hn HMANY.out htb HKK.out hT (by rw [hTs, Nat.sub_self]; simp [lastHard, softMod]) hTf)
          obtain ⟨va, wa, hra, hSa, Aa, ca, hva⟩ := run_appH hO (k := 1) rfl (ad := ⟨gf, 0, none⟩) (m := k) (c := cf) (ds := hdP Tf) (by rw [hdP_length, hFl]) hcf (fun i y hy => by have := hO.headsSub (k := 2) (a := 0) (m := k) rfl (by rw [hdP_length]; omega) i y (by rw [List.drop_zero, List.take_of_length_le (by rw [hdP_length]; omega)]; exact hy); rwa [Nat.zero_mul] at this) hof (by rw [hdP_length, hdP_length]; omega) 35
          rw [hdP_length, hdP_length, hSl, hFl, Nat.zero_add] at hva
          subst hva
          obtain ⟨All, hAll⟩ : ∃ All, All = Ts ++ Tf := ⟨_, rfl⟩
          have hAl : All.length = k := by rw [hAll, List.length_append, hSl, hFl]; omega
          rw [← hdP_append, ← hAll] at hSa
          have hPP : (piP Tf ++ piP Ts).Perm (piP All) := by rw [hAll, piP_append]; exact List.perm_append_comm
          have HSLI := Lib.hid (show ∀ y ∈ All, ∃ A n c, y.1 = .slice A n c from fun y hy => (hO.pileForm (k := 5) rfl) (y.1, y.2.1) (List.mem_append.2 (.inr (hPP.mem_iff.2 (List.mem_map.2 ⟨y, hy, rfl⟩)))))
          rw [← hAll] at HLEFT
          clear hAll
          have hSb := (show Objs w0 wa (.heads (.slice (some ⟨gr, 0, none⟩) L.length c) (hdP T) :: .heads (.slice Aa k ca) (hdP All) :: .heads (.slice (some ⟨gf, 0, none⟩) k cf) (hdP Tf) :: .box x 63 #[.int .i64 cols, .slice (some ⟨gr, 0, none⟩) L.length c] :: .box b5 23 #[.int .i64 top, .int .i64 bot] :: .pile (piP T ++ (piP Tf ++ piP Ts)) :: .lines (.slice Ag k cg) G :: .box b7 31 (pv q) :: os) from hSa).del 2
          have HRA := Lib.hid hra
          obtain ⟨A8, c8, e8, -, -, -, hg8⟩ := (show Objs w0 wa (.heads (.slice (some ⟨gr, 0, none⟩) L.length c) (hdP T) :: .heads (.slice Aa k ca) (hdP All) :: _) from hSb).headsForm (k := 1) rfl
          simp only [Value.slice.injEq] at e8
          obtain ⟨rfl, -, rfl⟩ := e8
          obtain ⟨ga, rfl, -, -, -⟩ := hg8 (by rw [hdP_length]; omega)
          have HPERM := Lib.hid (@rperm T Ts Tf top k All hPP)
          obtain ⟨P, hP⟩ : ∃ P, P = piP T ++ (piP Tf ++ piP Ts) := ⟨_, rfl⟩
          rw [← hP] at HPERM hSb
          obtain ⟨T1, hT1⟩ : ∃ T1, T1 = T.take top := ⟨_, rfl⟩
          obtain ⟨Rr, hRr⟩ : ∃ Rr, Rr = T.drop top := ⟨_, rfl⟩
          have hTT : hdP T = hdP T1 ++ (hdP (All.take 0) ++ hdP (Rr.drop 0)) := by rw [hT1, hRr]; simp [hdP]
          have HT1 := Lib.hid (show T1.length = top by rw [hT1]; simp; omega)
          have HRL := Lib.hid (show Rr.length = L.length - top by rw [hRr]; simp; omega)
          rw [← hT1, ← hRr] at HPERM
          rw [← hT1, ← hRr] at HLEFT
          rw [hTT] at hSb
          have SB := Lib.hid hSb
          have HAL := Lib.hid hAl
          clear hSa hSb hra hO hg8 hP hT1 hRr hTT hPP hS2 hT hTs hTf hos hof hSl hFl hTl hG hcf hGl0 hAl SZ
          go_wp2_with (at_builtin; refine wpList_app _ _ (wanted_none rfl) rfl rfl rfl HRA.out ?_)
          go_loopw [17] (fun vi wr => ∃ d : Nat, d ≤ k ∧ vi = .int .i64 d ∧ Objs w0 wr (.heads (.slice (some ⟨gr, 0, none⟩) L.length c) (hdP T1 ++ (hdP (All.take d) ++ hdP (Rr.drop d))) :: .heads (.slice (some ⟨ga, 0, none⟩) k ca) (hdP All) :: .box x 63 #[.int .i64 cols, .slice (some ⟨gr, 0, none⟩) L.length c] :: .box b5 23 #[.int .i64 top, .int .i64 bot] :: .pile P :: .lines (.slice Ag k cg) G :: .box b7 31 (pv q) :: os)) (fun vi _ => k - (intOf vi).toNat)
          case atStart => exact ⟨0, by omega, rfl, SB.out⟩
          case round =>
            obtain ⟨d, hdm, rfl, hS⟩ := hrel
            have S8 := Lib.hid hS
            clear hS SB
            by_cases hlt : d < k
            case neg =>
              have hX := S8.out
              have hd : d = k := by omega
              rw [hd, List.take_of_length_le (by rw [HAL.out]; exact Nat.le_refl _), ← hdP_append, ← hdP_append] at hX
              have hX2 := roll_shut HPERM.out hX
              obtain ⟨L1, hL1⟩ : ∃ L1, L1 = lnP (T1 ++ (All ++ Rr.drop k)) := ⟨_, rfl⟩
              have HLF := HLEFT
              rw [← hL1] at hX2 HLF
              have hL1l : L1.length = L.length := by rw [hL1, lnP_length]; simp only [List.length_append, List.length_drop]; have := HT1.out; have := HRL.out; have := HAL.out; omega
              have SX := Lib.hid hX2
              obtain ⟨hx5, hf5, hz5⟩ := (hX2.box (k := 2) rfl).facts
              clear hX hX2 hd hL1 S8
              by_cases ht0 : top = 0
              · have HT0 := Lib.hid (show topHard top L1 = L1 by unfold topHard; rw [if_neg (by omega)])
                have htg : ¬ (0 : Int) < (top : Int) := by omega
                have SF := Lib.hid (fin_roll2 SX.out)
                clear ht0
                go_wp2_with fail
                go_ret
                exact ⟨Ag, k, cg, rfl, by rw [← HGONE.out, ← HLF.out, HT0.out]; exact SF.out⟩
              · have htg : (0 : Int) < (top : Int) := by omega
                obtain ⟨l9, hlt1⟩ := get_of (show top - 1 < L1.length by omega)
                have HT0 := Lib.hid (show L1.set (top - 1) (l9.1, false) = topHard top L1 by unfold topHard; rw [if_pos (by omega), softMod_some hlt1])
                have HWT := Lib.hid (show IntKind.i64.wrap ((top : Int) - 1) = (top : Int) - 1 from IntWalk.i64_in _ (by omega))
                have htz : (0 : Int) ≤ (top : Int) - 1 := by omega
                have htz2 : (top : Int) - 1 < (L.length : Int) := by omega
                have htz3 : ¬ (top : Int) < 1 := by omega
                have htn : ((top : Int) - 1).toNat = top - 1 := by omega
                have SY := SX
                go_upto_region 27 with (fail)
                refine wp_region_stage (w0 := w0) (os := (.lines (.slice Ag k cg) G :: .box b7 31 (pv q) :: os)) (by kernel_rfl) (by kernel_rfl) (by kernel_rfl) [(0, 9, [], fun vs => .lines (.slice (some ⟨gr, 0, none⟩) L.length c) (L1.set (top - 1) (l9.1, false)))] [[], [], [], [1], [], [2], [], [], [], [0]] [.lines (.slice (some ⟨gr, 0, none⟩) L.length c) L1, .box x 63 #[.int .i64 ↑cols, .slice (some ⟨gr, 0, none⟩) L.length c], .box b5 23 #[.int .i64 ↑top, .int .i64 ↑bot]] (fun i u => match i with | 0 => u = (.pointer (some ⟨x, 0, none⟩) : Value) | 1 => u = (.pointer (some ⟨x, 0, none⟩) : Value) | 2 => u = (.pointer (some ⟨x, 1, none⟩) : Value) | 3 => u = (.slice (some ⟨gr, 0, none⟩) L.length c : Value) | 4 => u = (.pointer (some ⟨b5, 0, none⟩) : Value) | 5 => u = (.int .i64 ↑top : Value) | 6 => u = (.int .i64 (↑top - 1) : Value) | 7 => u = (.pointer (some ⟨gr, (top - 1) * 2, none⟩) : Value) | 8 => u = (.pointer (some ⟨gr, (top - 1) * 2 + 1, none⟩) : Value) | 9 => True | _ => True) (fun vs => [.lines (.slice (some ⟨gr, 0, none⟩) L.length c) (L1.set (top - 1) (l9.1, false)), .box x 63 #[.int .i64 ↑cols, .slice (some ⟨gr, 0, none⟩) L.length c], .box b5 23 #[.int .i64 ↑top, .int .i64 ↑bot]]) (by kernel_rfl) (fun vs => by rfl) SY.out ?_ ?_
                · refine SSteps.cons (fun a w' vs σ hS hl hs hk => ?_) ?_
                  · have e0 : a.tmps.getD 0 undef = (.pointer (some ⟨x, 0, none⟩) : Value) := (sk_old hk 0 (by kernel_rfl)).trans rfl
                    have f0 := gd e0
                    exact ro_pure (v := .pointer (some ⟨x, 0, none⟩)) (wanted_none rfl) (by simp [execOp, Act.eval, e0, f0, go_sem]) (sp_same (by kernel_rfl) hl hs hS (show (.pointer (some ⟨x, 0, none⟩) : Value) = _ from rfl)) trivial
                  refine SSteps.cons (fun a w' vs σ hS hl hs hk => ?_) ?_
                  · have e124 : a.tmps.getD 124 undef = (.pointer (some ⟨x, 0, none⟩) : Value) := (sk_val hk 0 (by kernel_rfl) rfl rfl).trans ((hk.1 0 (by kernel_rfl)).1)
                    have f124 := gd e124
                    exact ro_pure (v := .pointer (some ⟨x, 0, none⟩)) (wanted_none rfl) (by simp [execOp, Act.eval, e124, f124, go_sem]) (sp_same (by kernel_rfl) hl hs hS (show (.pointer (some ⟨x, 0, none⟩) : Value) = _ from rfl)) trivial
                  refine SSteps.cons (fun a w' vs σ hS hl hs hk => ?_) ?_
                  · have e125 : a.tmps.getD 125 undef = (.pointer (some ⟨x, 0, none⟩) : Value) := (sk_val hk 1 (by kernel_rfl) rfl rfl).trans ((hk.1 1 (by kernel_rfl)).1)
                    have f125 := gd e125
                    exact ro_pure (v := .pointer (some ⟨x, 1, none⟩)) (wanted_none rfl) (by simp [execOp, Act.eval, e125, f125, go_sem]) (sp_same (by kernel_rfl) hl hs hS (show (.pointer (some ⟨x, 1, none⟩) : Value) = _ from rfl)) trivial
                  refine SSteps.cons (fun a w' vs σ hS hl hs hk => ?_) ?_
                  · have e126 : a.tmps.getD 126 undef = (.pointer (some ⟨x, 1, none⟩) : Value) := (sk_val hk 2 (by kernel_rfl) rfl rfl).trans ((hk.1 2 (by kernel_rfl)).1)
                    have f126 := gd e126
                    have hx := (hS.box (sg (hs 1 (by decide)))).cell
                    exact ro_pure (v := .slice (some ⟨gr, 0, none⟩) L.length c) (wanted_none rfl) (by simp [execOp, Act.eval, e126, f126, go_sem, hx]) (sp_same (by kernel_rfl) hl hs hS (show (.slice (some ⟨gr, 0, none⟩) L.length c : Value) = _ from rfl)) trivial
                  refine SSteps.cons (fun a w' vs σ hS hl hs hk => ?_) ?_
                  · have e5 : a.tmps.getD 5 undef = (.pointer (some ⟨b5, 0, none⟩) : Value) := (sk_old hk 5 (by kernel_rfl)).trans rfl
                    have f5 := gd e5
                    exact ro_pure (v := .pointer (some ⟨b5, 0, none⟩)) (wanted_none rfl) (by simp [execOp, Act.eval, e5, f5, go_sem]) (sp_same (by kernel_rfl) hl hs hS (show (.pointer (some ⟨b5, 0, none⟩) : Value) = _ from rfl)) trivial
                  refine SSteps.cons (fun a w' vs σ hS hl hs hk => ?_) ?_
                  · have e128 : a.tmps.getD 128 undef = (.pointer (some ⟨b5, 0, none⟩) : Value) := (sk_val hk 4 (by kernel_rfl) rfl rfl).trans ((hk.1 4 (by kernel_rfl)).1)
                    have f128 := gd e128
                    have hx := (hS.box (sg (hs 2 (by decide)))).cell
                    exact ro_pure (v := .int .i64 ↑top) (wanted_none rfl) (by simp [execOp, Act.eval, e128, f128, go_sem, hx]) (sp_same (by kernel_rfl) hl hs hS (show (.int .i64 ↑top : Value) = _ from rfl)) trivial
                  refine SSteps.cons (fun a w' vs σ hS hl hs hk => ?_) ?_
                  · have e129 : a.tmps.getD 129 undef = (.int .i64 ↑top : Value) := (sk_val hk 5 (by kernel_rfl) rfl rfl).trans ((hk.1 5 (by kernel_rfl)).1)
                    have f129 := gd e129
                    exact ro_pure (v := .int .i64 (↑top - 1)) (wanted_none rfl) (by simp [execOp, Act.eval, e129, f129, go_sem, HWT.out]) (sp_same (by kernel_rfl) hl hs hS (show (.int .i64 (↑top - 1) : Value) = _ from rfl)) trivial
                  refine SSteps.cons (fun a w' vs σ hS hl hs hk => ?_) ?_
                  · have e127 : a.tmps.getD 127 undef = (.slice (some ⟨gr, 0, none⟩) L.length c : Value) := (sk_val hk 3 (by kernel_rfl) rfl rfl).trans ((hk.1 3 (by kernel_rfl)).1)
                    have f127 := gd e127
                    have e130 : a.tmps.getD 130 undef = (.int .i64 (↑top - 1) : Value) := (sk_val hk 6 (by kernel_rfl) rfl rfl).trans ((hk.1 6 (by kernel_rfl)).1)
                    have f130 := gd e130
                    exact ro_pure (v := .pointer (some ⟨gr, (top - 1) * 2, none⟩)) (wanted_none rfl) (by simp [execOp, Act.eval, e127, f127, e130, f130, go_sem, htz, htz2, htn, htz3]) (sp_same (by kernel_rfl) hl hs hS (show (.pointer (some ⟨gr, (top - 1) * 2, none⟩) : Value) = _ from rfl)) trivial
                  refine SSteps.cons (fun a w' vs σ hS hl hs hk => ?_) ?_
                  · have e131 : a.tmps.getD 131 undef = (.pointer (some ⟨gr, (top - 1) * 2, none⟩) : Value) := (sk_val hk 7 (by kernel_rfl) rfl rfl).trans ((hk.1 7 (by kernel_rfl)).1)
                    have f131 := gd e131
                    exact ro_pure (v := .pointer (some ⟨gr, (top - 1) * 2 + 1, none⟩)) (wanted_none rfl) (by simp [execOp, Act.eval, e131, f131, go_sem]) (sp_same (by kernel_rfl) hl hs hS (show (.pointer (some ⟨gr, (top - 1) * 2 + 1, none⟩) : Value) = _ from rfl)) trivial
                  refine SSteps.cons (fun a w' vs σ hS hl hs hk => ?_) ?_
                  · have e132 : a.tmps.getD 132 undef = (.pointer (some ⟨gr, (top - 1) * 2 + 1, none⟩) : Value) := (sk_val hk 8 (by kernel_rfl) rfl rfl).trans ((hk.1 8 (by kernel_rfl)).1)
                    have f132 := gd e132
                    have h1 : σ[0]? = some (.lines (.slice (some ⟨gr, 0, none⟩) L.length c) L1) := hs 0 (by decide)
                    obtain ⟨F9, bs9, hF9, -⟩ := hS.get (sg h1)
                    obtain ⟨A9, c9, e9, -, -, -, hg9⟩ := hF9.form
                    simp only [Value.slice.injEq] at e9
                    obtain ⟨rfl, -, rfl⟩ := e9
                    obtain ⟨g9, e9', hz, -, hso, hf⟩ := hg9 (by omega)
                    cases e9'
                    have hx := hso _ _ hlt1
                    exact rstep_store (w2 := w'.setCell ⟨gr, (top - 1) * 2 + 1, none⟩ (.bool false)) (wanted_none rfl) rfl (by simp [execOp, Act.eval, e132, f132, hx, hf, hz, go_sem]) (sp_set 0 (.lines (.slice (some ⟨gr, 0, none⟩) L.length c) (L1.set (top - 1) (l9.1, false))) (by kernel_rfl) (by simp) (by decide) hl hs (by rfl) (hS.storeSoft (sg h1) hlt1) trivial) trivial
                  exact SSteps.nil
                · intro vs w' hS hv
                  have q0 := (show vs 0 = (.pointer (some ⟨x, 0, none⟩) : Value) from hv 0 (by decide))
                  have q1 := (show vs 1 = (.pointer (some ⟨x, 0, none⟩) : Value) from hv 1 (by decide))
                  have q2 := (show vs 2 = (.pointer (some ⟨x, 1, none⟩) : Value) from hv 2 (by decide))
                  have q3 := (show vs 3 = (.slice (some ⟨gr, 0, none⟩) L.length c : Value) from hv 3 (by decide))
                  have q4 := (show vs 4 = (.pointer (some ⟨b5, 0, none⟩) : Value) from hv 4 (by decide))
                  have q5 := (show vs 5 = (.int .i64 ↑top : Value) from hv 5 (by decide))
                  have q6 := (show vs 6 = (.int .i64 (↑top - 1) : Value) from hv 6 (by decide))
                  have q7 := (show vs 7 = (.pointer (some ⟨gr, (top - 1) * 2, none⟩) : Value) from hv 7 (by decide))
                  have q8 := (show vs 8 = (.pointer (some ⟨gr, (top - 1) * 2 + 1, none⟩) : Value) from hv 8 (by decide))
                  have S2 := Lib.hid hS
                  simp only [putL, Act.put, Nat.zero_add, Nat.reduceAdd, List.setIfInBounds_toArray, List.set_cons_succ, List.set_cons_zero, q0, q1, q2, q3, q4, q5, q6, q7, q8]
                  clear hS hv q0 q1 q2 q3 q4 q5 q6 q7 q8
                  have S9 := S2.out
                  rw [HT0.out] at S9
                  have SF := Lib.hid (fin_roll2 S9)
                  clear S9 S2
                  go_wp2_with fail
                  go_ret
                  exact ⟨Ag, k, cg, rfl, by rw [← HGONE.out, ← HLF.out]; exact SF.out⟩
            have hdA : d < All.length := by rw [HAL.out]; exact hlt
            have hdR : d < Rr.length := by rw [HRL.out]; omega
            obtain ⟨Ad, nd, cd, hsl⟩ := HSLI.out All[d] (List.getElem_mem hdA)
            have hdz : (0 : Int) ≤ (d : Int) := by omega
            have hdz2 : (d : Int) < (k : Int) := by omega
            have htz : (0 : Int) ≤ (top : Int) + (d : Int) := by omega
            have htz2 : (top : Int) + (d : Int) < (L.length : Int) := by omega
            have htn : ((top : Int) + (d : Int)).toNat = top + d := by omega
            have HWD := Lib.hid (show IntKind.i64.wrap ((top : Int) + (d : Int)) = (top : Int) + (d : Int) from IntWalk.i64_in _ (by omega))
            have HHL := Lib.hid (show (hdP T1 ++ (hdP (All.take d) ++ hdP (Rr.drop d))).length = top + (d + (Rr.length - d)) by simp only [List.length_append, hdP_length, List.length_drop, List.length_take, HT1.out]; omega)
            go_upto_region 25 with (fail)
            refine wp_region_stage (w0 := w0) (os := (.pile P :: .lines (.slice Ag k cg) G :: .box b7 31 (pv q) :: os)) (by kernel_rfl) (by kernel_rfl) (by kernel_rfl) [(0, 13, [], fun vs => .heads (.slice (some ⟨gr, 0, none⟩) L.length c) (List.set (hdP T1 ++ (hdP (All.take d) ++ hdP (Rr.drop d))) (top + d) (All[d].1, All[d].2.2)))] [[], [], [], [2], [], [3], [], [], [], [], [], [1], [], [0]] [.heads (.slice (some ⟨gr, 0, none⟩) L.length c) (hdP T1 ++ (hdP (All.take d) ++ hdP (Rr.drop d))), .heads (.slice (some ⟨ga, 0, none⟩) k ca) (hdP All), .box x 63 #[.int .i64 ↑cols, .slice (some ⟨gr, 0, none⟩) L.length c], .box b5 23 #[.int .i64 ↑top, .int .i64 ↑bot]] (fun i u => match i with | 0 => u = (.pointer (some ⟨x, 0, none⟩) : Value) | 1 => u = (.pointer (some ⟨x, 0, none⟩) : Value) | 2 => u = (.pointer (some ⟨x, 1, none⟩) : Value) | 3 => u = (.slice (some ⟨gr, 0, none⟩) L.length c : Value) | 4 => u = (.pointer (some ⟨b5, 0, none⟩) : Value) | 5 => u = (.int .i64 ↑top : Value) | 6 => u = (.int .i64 ↑d : Value) | 7 => u = (.int .i64 (↑top + ↑d) : Value) | 8 => u = (.slice (some ⟨ga, 0, none⟩) k ca : Value) | 9 => u = (.int .i64 ↑d : Value) | 10 => u = (.pointer (some ⟨ga, d * 2, none⟩) : Value) | 11 => u = (.agg #[All[d].1, .bool All[d].2.2] : Value) | 12 => u = (.pointer (some ⟨gr, (top + d) * 2, none⟩) : Value) | 13 => True | _ => True) (fun vs => [.heads (.slice (some ⟨gr, 0, none⟩) L.length c) (List.set (hdP T1 ++ (hdP (All.take d) ++ hdP (Rr.drop d))) (top + d) (All[d].1, All[d].2.2)), .heads (.slice (some ⟨ga, 0, none⟩) k ca) (hdP All), .box x 63 #[.int .i64 ↑cols, .slice (some ⟨gr, 0, none⟩) L.length c], .box b5 23 #[.int .i64 ↑top, .int .i64 ↑bot]]) (by kernel_rfl) (fun vs => by rfl) S8.out ?_ ?_
            · refine SSteps.cons (fun a w' vs σ hS hl hs hk => ?_) ?_
              · have e0 : a.tmps.getD 0 undef = (.pointer (some ⟨x, 0, none⟩) : Value) := (sk_old hk 0 (by kernel_rfl)).trans rfl
                have f0 := gd e0
                exact ro_pure (v := .pointer (some ⟨x, 0, none⟩)) (wanted_none rfl) (by simp [execOp, Act.eval, e0, f0, go_sem]) (sp_same (by kernel_rfl) hl hs hS (show (.pointer (some ⟨x, 0, none⟩) : Value) = _ from rfl)) trivial
              refine SSteps.cons (fun a w' vs σ hS hl hs hk => ?_) ?_
              · have e108 : a.tmps.getD 108 undef = (.pointer (some ⟨x, 0, none⟩) : Value) := (sk_val hk 0 (by kernel_rfl) rfl rfl).trans ((hk.1 0 (by kernel_rfl)).1)
                have f108 := gd e108
                exact ro_pure (v := .pointer (some ⟨x, 0, none⟩)) (wanted_none rfl) (by simp [execOp, Act.eval, e108, f108, go_sem]) (sp_same (by kernel_rfl) hl hs hS (show (.pointer (some ⟨x, 0, none⟩) : Value) = _ from rfl)) trivial
              refine SSteps.cons (fun a w' vs σ hS hl hs hk => ?_) ?_
              · have e109 : a.tmps.getD 109 undef = (.pointer (some ⟨x, 0, none⟩) : Value) := (sk_val hk 1 (by kernel_rfl) rfl rfl).trans ((hk.1 1 (by kernel_rfl)).1)
                have f109 := gd e109
                exact ro_pure (v := .pointer (some ⟨x, 1, none⟩)) (wanted_none rfl) (by simp [execOp, Act.eval, e109, f109, go_sem]) (sp_same (by kernel_rfl) hl hs hS (show (.pointer (some ⟨x, 1, none⟩) : Value) = _ from rfl)) trivial
              refine SSteps.cons (fun a w' vs σ hS hl hs hk => ?_) ?_
              · have e110 : a.tmps.getD 110 undef = (.pointer (some ⟨x, 1, none⟩) : Value) := (sk_val hk 2 (by kernel_rfl) rfl rfl).trans ((hk.1 2 (by kernel_rfl)).1)
                have f110 := gd e110
                have hx := (hS.box (sg (hs 2 (by decide)))).cell
                exact ro_pure (v := .slice (some ⟨gr, 0, none⟩) L.length c) (wanted_none rfl) (by simp [execOp, Act.eval, e110, f110, go_sem, hx]) (sp_same (by kernel_rfl) hl hs hS (show (.slice (some ⟨gr, 0, none⟩) L.length c : Value) = _ from rfl)) trivial
              refine SSteps.cons (fun a w' vs σ hS hl hs hk => ?_) ?_
              · have e5 : a.tmps.getD 5 undef = (.pointer (some ⟨b5, 0, none⟩) : Value) := (sk_old hk 5 (by kernel_rfl)).trans rfl
                have f5 := gd e5
                exact ro_pure (v := .pointer (some ⟨b5, 0, none⟩)) (wanted_none rfl) (by simp [execOp, Act.eval, e5, f5, go_sem]) (sp_same (by kernel_rfl) hl hs hS (show (.pointer (some ⟨b5, 0, none⟩) : Value) = _ from rfl)) trivial
              refine SSteps.cons (fun a w' vs σ hS hl hs hk => ?_) ?_
              · have e112 : a.tmps.getD 112 undef = (.pointer (some ⟨b5, 0, none⟩) : Value) := (sk_val hk 4 (by kernel_rfl) rfl rfl).trans ((hk.1 4 (by kernel_rfl)).1)
                have f112 := gd e112
                have hx := (hS.box (sg (hs 3 (by decide)))).cell
                exact ro_pure (v := .int .i64 ↑top) (wanted_none rfl) (by simp [execOp, Act.eval, e112, f112, go_sem, hx]) (sp_same (by kernel_rfl) hl hs hS (show (.int .i64 ↑top : Value) = _ from rfl)) trivial
              refine SSteps.cons (fun a w' vs σ hS hl hs hk => ?_) ?_
              · have e17 : a.tmps.getD 17 undef = (.int .i64 ↑d : Value) := (sk_old hk 17 (by kernel_rfl)).trans rfl
                have f17 := gd e17
                exact ro_pure (v := .int .i64 ↑d) (wanted_none rfl) (by simp [execOp, Act.eval, e17, f17, go_sem]) (sp_same (by kernel_rfl) hl hs hS (show (.int .i64 ↑d : Value) = _ from rfl)) trivial
              refine SSteps.cons (fun a w' vs σ hS hl hs hk => ?_) ?_
              · have e113 : a.tmps.getD 113 undef = (.int .i64 ↑top : Value) := (sk_val hk 5 (by kernel_rfl) rfl rfl).trans ((hk.1 5 (by kernel_rfl)).1)
                have f113 := gd e113
                have e114 : a.tmps.getD 114 undef = (.int .i64 ↑d : Value) := (sk_val hk 6 (by kernel_rfl) rfl rfl).trans ((hk.1 6 (by kernel_rfl)).1)
                have f114 := gd e114
                exact ro_pure (v := .int .i64 (↑top + ↑d)) (wanted_none rfl) (by simp [execOp, Act.eval, e113, f113, e114, f114, go_sem, HWD.out]) (sp_same (by kernel_rfl) hl hs hS (show (.int .i64 (↑top + ↑d) : Value) = _ from rfl)) trivial
              refine SSteps.cons (fun a w' vs σ hS hl hs hk => ?_) ?_
              · have e16 : a.tmps.getD 16 undef = (.slice (some ⟨ga, 0, none⟩) k ca : Value) := (sk_old hk 16 (by kernel_rfl)).trans rfl
                have f16 := gd e16
                exact ro_pure (v := .slice (some ⟨ga, 0, none⟩) k ca) (wanted_none rfl) (by simp [execOp, Act.eval, e16, f16, go_sem]) (sp_same (by kernel_rfl) hl hs hS (show (.slice (some ⟨ga, 0, none⟩) k ca : Value) = _ from rfl)) trivial
              refine SSteps.cons (fun a w' vs σ hS hl hs hk => ?_) ?_
              · have e17 : a.tmps.getD 17 undef = (.int .i64 ↑d : Value) := (sk_old hk 17 (by kernel_rfl)).trans rfl
                have f17 := gd e17
                exact ro_pure (v := .int .i64 ↑d) (wanted_none rfl) (by simp [execOp, Act.eval, e17, f17, go_sem]) (sp_same (by kernel_rfl) hl hs hS (show (.int .i64 ↑d : Value) = _ from rfl)) trivial
              refine SSteps.cons (fun a w' vs σ hS hl hs hk => ?_) ?_
              · have e116 : a.tmps.getD 116 undef = (.slice (some ⟨ga, 0, none⟩) k ca : Value) := (sk_val hk 8 (by kernel_rfl) rfl rfl).trans ((hk.1 8 (by kernel_rfl)).1)
                have f116 := gd e116
                have e117 : a.tmps.getD 117 undef = (.int .i64 ↑d : Value) := (sk_val hk 9 (by kernel_rfl) rfl rfl).trans ((hk.1 9 (by kernel_rfl)).1)
                have f117 := gd e117
                exact ro_pure (v := .pointer (some ⟨ga, d * 2, none⟩)) (wanted_none rfl) (by simp [execOp, Act.eval, e116, f116, e117, f117, go_sem, hdz, hdz2]) (sp_same (by kernel_rfl) hl hs hS (show (.pointer (some ⟨ga, d * 2, none⟩) : Value) = _ from rfl)) trivial
              refine SSteps.cons (fun a w' vs σ hS hl hs hk => ?_) ?_
              · have e118 : a.tmps.getD 118 undef = (.pointer (some ⟨ga, d * 2, none⟩) : Value) := (sk_val hk 10 (by kernel_rfl) rfl rfl).trans ((hk.1 10 (by kernel_rfl)).1)
                have f118 := gd e118
                have h1 : σ[1]? = some (.heads (.slice (some ⟨ga, 0, none⟩) k ca) (hdP All)) := hs 1 (by decide)
                obtain ⟨A8, c8, e8, -, -, -, hg8⟩ := hS.headsForm (sg h1)
                simp only [Value.slice.injEq] at e8
                obtain ⟨rfl, -, rfl⟩ := e8
                obtain ⟨g8, e9, hz, hcs, hf⟩ := hg8 (by rw [hdP_length]; omega)
                cases e9
                obtain ⟨hx, hx'⟩ := hcs d (All[d].1, All[d].2.2) (by simp [hdP, hdA])
                exact ro_pure (v := .agg #[All[d].1, .bool All[d].2.2]) (wanted_none rfl) (by simp [execOp, Act.eval, e118, f118, hx, hx', go_sem]) (sp_same (by kernel_rfl) hl hs hS rfl) trivial
              refine SSteps.cons (fun a w' vs σ hS hl hs hk => ?_) ?_
              · have e111 : a.tmps.getD 111 undef = (.slice (some ⟨gr, 0, none⟩) L.length c : Value) := (sk_val hk 3 (by kernel_rfl) rfl rfl).trans ((hk.1 3 (by kernel_rfl)).1)
                have f111 := gd e111
                have e115 : a.tmps.getD 115 undef = (.int .i64 (↑top + ↑d) : Value) := (sk_val hk 7 (by kernel_rfl) rfl rfl).trans ((hk.1 7 (by kernel_rfl)).1)
                have f115 := gd e115
                exact ro_pure (v := .pointer (some ⟨gr, (top + d) * 2, none⟩)) (wanted_none rfl) (by simp [execOp, Act.eval, e111, f111, e115, f115, go_sem, htz, htz2, htn]) (sp_same (by kernel_rfl) hl hs hS (show (.pointer (some ⟨gr, (top + d) * 2, none⟩) : Value) = _ from rfl)) trivial
              refine SSteps.cons (fun a w' vs σ hS hl hs hk => ?_) ?_
              · have e120 : a.tmps.getD 120 undef = (.pointer (some ⟨gr, (top + d) * 2, none⟩) : Value) := (sk_val hk 12 (by kernel_rfl) rfl rfl).trans ((hk.1 12 (by kernel_rfl)).1)
                have f120 := gd e120
                have e119 : a.tmps.getD 119 undef = (.agg #[All[d].1, .bool All[d].2.2] : Value) := (sk_val hk 11 (by kernel_rfl) rfl rfl).trans ((hk.1 11 (by kernel_rfl)).1)
                have f119 := gd e119
                have h1 : σ[0]? = some (.heads (.slice (some ⟨gr, 0, none⟩) L.length c) (hdP T1 ++ (hdP (All.take d) ++ hdP (Rr.drop d)))) := hs 0 (by decide)
                obtain ⟨A8, c8, e8, -, -, -, hg8⟩ := hS.headsForm (sg h1)
                simp only [Value.slice.injEq] at e8
                obtain ⟨rfl, -, rfl⟩ := e8
                have hHl := HHL.out
                obtain ⟨g8, e9, hz, hcs, hf⟩ := hg8 (by omega)
                cases e9
                obtain ⟨x8, hx8⟩ := get_of (show top + d < (hdP T1 ++ (hdP (All.take d) ++ hdP (Rr.drop d))).length by omega)
                obtain ⟨hx, hx'⟩ := hcs (top + d) x8 hx8
                exact rstep_store (w2 := (w'.setCell ⟨gr, (top + d) * 2, none⟩ All[d].1).setCell ⟨gr, (top + d) * 2 + 1, none⟩ (.bool All[d].2.2)) (wanted_none rfl) rfl (by simp [execOp, Act.eval, e120, f120, e119, f119, hsl, hx, hx', hf, hz, go_sem]) (sp_set 0 (.heads (.slice (some ⟨gr, 0, none⟩) L.length c) (List.set (hdP T1 ++ (hdP (All.take d) ++ hdP (Rr.drop d))) (top + d) (All[d].1, All[d].2.2))) (by kernel_rfl) (by simp) (by decide) hl hs (by rfl) (hS.storeHead (sg h1)) trivial) trivial
              exact SSteps.nil
            · intro vs w' hS hv
              have q0 := (show vs 0 = (.pointer (some ⟨x, 0, none⟩) : Value) from hv 0 (by decide))
              have q1 := (show vs 1 = (.pointer (some ⟨x, 0, none⟩) : Value) from hv 1 (by decide))
              have q2 := (show vs 2 = (.pointer (some ⟨x, 1, none⟩) : Value) from hv 2 (by decide))
              have q3 := (show vs 3 = (.slice (some ⟨gr, 0, none⟩) L.length c : Value) from hv 3 (by decide))
              have q4 := (show vs 4 = (.pointer (some ⟨b5, 0, none⟩) : Value) from hv 4 (by decide))
              have q5 := (show vs 5 = (.int .i64 ↑top : Value) from hv 5 (by decide))
              have q6 := (show vs 6 = (.int .i64 ↑d : Value) from hv 6 (by decide))
              have q7 := (show vs 7 = (.int .i64 (↑top + ↑d) : Value) from hv 7 (by decide))
              have q8 := (show vs 8 = (.slice (some ⟨ga, 0, none⟩) k ca : Value) from hv 8 (by decide))
              have q9 := (show vs 9 = (.int .i64 ↑d : Value) from hv 9 (by decide))
              have q10 := (show vs 10 = (.pointer (some ⟨ga, d * 2, none⟩) : Value) from hv 10 (by decide))
              have q11 := (show vs 11 = (.agg #[All[d].1, .bool All[d].2.2] : Value) from hv 11 (by decide))
              have q12 := (show vs 12 = (.pointer (some ⟨gr, (top + d) * 2, none⟩) : Value) from hv 12 (by decide))
              have S2 := Lib.hid hS
              simp only [putL, Act.put, Nat.zero_add, Nat.reduceAdd, List.setIfInBounds_toArray, List.set_cons_succ, List.set_cons_zero, q0, q1, q2, q3, q4, q5, q6, q7, q8, q9, q10, q11, q12]
              clear hS hv q0 q1 q2 q3 q4 q5 q6 q7 q8 q9 q10 q11 q12
              have S9 := S2.out
              rw [hdP_fill All[d].1 All[d].2.1 All[d].2.2 HT1.out (by rw [List.length_take]; omega) hdR, show All.take d ++ [(All[d].1, All[d].2.1, All[d].2.2)] = All.take (d + 1) from (List.take_succ_eq_append_getElem hdA).symm] at S9
              have S10 := Lib.hid S9
              clear S9 S2
              go_wp2_with fail
              go_roundw
              case rel => exact ⟨d + 1, by omega, by go_num, S10.out⟩
              case measure => simp [intOf]; omega
    · have hmi := HMI.out
      go_wp2_with fail
      go_loopw [11, 12] (fun u11 vi wr => ∃ (d : Nat) (vf : Value), d ≤ k ∧ vf = u11 ∧ vi = .int .i64 d ∧ Objs w0 wr (.lines vf (rollFresh d cols q) :: .box b7 31 (pv q) :: .box x 63 #[.int .i64 cols, .slice (some ⟨gr, 0, none⟩) L.length c] :: .lines (.slice (some ⟨gr, 0, none⟩) L.length c) L :: .box b5 23 #[.int .i64 top, .int .i64 bot] :: os)) (fun _ vi _ => k - (intOf vi).toNat)
      case atStart => exact ⟨0, _, by omega, rfl, rfl, S1.out⟩
      case round =>
        obtain ⟨d, vf, hdk, rfl, rfl, hS⟩ := hrel
        have S2 := Lib.hid hS
        clear hS S1
        by_cases hlt : d < k
        · have SZ := Lib.hid S2.out.pad.pad
          clear S2
          go_upto_region 11 with (fail)
          refine wp_region_stage (w0 := w0) (os := (.lines (.slice (some ⟨gr, 0, none⟩) L.length c) L :: .box b5 23 #[.int .i64 ↑top, .int .i64 ↑bot] :: os)) (by kernel_rfl) (by kernel_rfl) (by kernel_rfl) [(0, 6, [6], fun vs => .cells (lineV (vs 6)) (List.replicate cols (blank q))), (1, 7, [6, 7], fun vs => .box (blkOf (vs 7)) 79 #[lineV (vs 6), .bool false]), (2, 8, [8], fun vs => .lines (vs 8) (rollFresh (d + 1) cols q)), (0, 8, [], fun vs => .none), (2, 9, [9], fun vs => .lines (vs 9) (rollFresh (d + 1) cols q))] [[], [], [], [], [4], [3], [0], [1], [0, 1, 2], [2]] [.none, .none, .lines vf (rollFresh d cols q), .box b7 31 (pv q), .box x 63 #[.int .i64 ↑cols, .slice (some ⟨gr, 0, none⟩) L.length c]] (fun i u => match i with | 0 => u = (vf : Value) | 1 => u = (.pointer (some ⟨x, 0, none⟩) : Value) | 2 => u = (.pointer (some ⟨x, 0, none⟩) : Value) | 3 => u = (.pointer (some ⟨x, 0, none⟩) : Value) | 4 => u = (.int .i64 ↑cols : Value) | 5 => u = (.agg (pv q) : Value) | 6 => ∃ y, u = .agg #[y, .bool false] | 7 => ∃ g, u = .slice (some ⟨g, 0, none⟩) 1 1 | 8 => ∃ A m c, u = .slice A m c | 9 => ∃ A m c, u = .slice A m c | _ => True) (fun vs => [.none, .box (blkOf (vs 7)) 79 #[lineV (vs 6), .bool false], .lines (vs 9) (rollFresh (d + 1) cols q), .box b7 31 (pv q), .box x 63 #[.int .i64 ↑cols, .slice (some ⟨gr, 0, none⟩) L.length c]]) (by kernel_rfl) (fun vs => by rfl) SZ.out ?_ ?_
          · refine SSteps.cons (fun a w' vs σ hS hl hs hk => ?_) ?_
            · have e11 : a.tmps.getD 11 undef = (vf : Value) := (sk_later hk 9 (by kernel_rfl) rfl rfl).trans rfl
              have f11 := gd e11
              exact ro_pure (v := vf) (wanted_none rfl) (by simp [execOp, Act.eval, e11, f11, go_sem]) (sp_same (by kernel_rfl) hl hs hS (show (vf : Value) = _ from rfl)) trivial
            refine SSteps.cons (fun a w' vs σ hS hl hs hk => ?_) ?_
            · have e0 : a.tmps.getD 0 undef = (.pointer (some ⟨x, 0, none⟩) : Value) := (sk_old hk 0 (by kernel_rfl)).trans rfl
              have f0 := gd e0
              exact ro_pure (v := .pointer (some ⟨x, 0, none⟩)) (wanted_none rfl) (by simp [execOp, Act.eval, e0, f0, go_sem]) (sp_same (by kernel_rfl) hl hs hS (show (.pointer (some ⟨x, 0, none⟩) : Value) = _ from rfl)) trivial
            refine SSteps.cons (fun a w' vs σ hS hl hs hk => ?_) ?_
            · have e46 : a.tmps.getD 46 undef = (.pointer (some ⟨x, 0, none⟩) : Value) := (sk_val hk 1 (by kernel_rfl) rfl rfl).trans ((hk.1 1 (by kernel_rfl)).1)
              have f46 := gd e46
              exact ro_pure (v := .pointer (some ⟨x, 0, none⟩)) (wanted_none rfl) (by simp [execOp, Act.eval, e46, f46, go_sem]) (sp_same (by kernel_rfl) hl hs hS (show (.pointer (some ⟨x, 0, none⟩) : Value) = _ from rfl)) trivial
            refine SSteps.cons (fun a w' vs σ hS hl hs hk => ?_) ?_
            · have e47 : a.tmps.getD 47 undef = (.pointer (some ⟨x, 0, none⟩) : Value) := (sk_val hk 2 (by kernel_rfl) rfl rfl).trans ((hk.1 2 (by kernel_rfl)).1)
              have f47 := gd e47
              exact ro_pure (v := .pointer (some ⟨x, 0, none⟩)) (wanted_none rfl) (by simp [execOp, Act.eval, e47, f47, go_sem]) (sp_same (by kernel_rfl) hl hs hS (show (.pointer (some ⟨x, 0, none⟩) : Value) = _ from rfl)) trivial
            refine SSteps.cons (fun a w' vs σ hS hl hs hk => ?_) ?_
            · have e48 : a.tmps.getD 48 undef = (.pointer (some ⟨x, 0, none⟩) : Value) := (sk_val hk 3 (by kernel_rfl) rfl rfl).trans ((hk.1 3 (by kernel_rfl)).1)
              have f48 := gd e48
              have hx := (hS.box (sg (hs 4 (by decide)))).cell
              exact ro_pure (v := .int .i64 ↑cols) (wanted_none rfl) (by simp [execOp, Act.eval, e48, f48, go_sem, hx]) (sp_same (by kernel_rfl) hl hs hS (show (.int .i64 ↑cols : Value) = _ from rfl)) trivial
            refine SSteps.cons (fun a w' vs σ hS hl hs hk => ?_) ?_
            · have e7 : a.tmps.getD 7 undef = (.pointer (some ⟨b7, 0, none⟩) : Value) := (sk_old hk 7 (by kernel_rfl)).trans rfl
              have f7 := gd e7
              have hx := (hS.box (sg (hs 3 (by decide)))).penAt
              exact ro_pure (v := .agg (pv q)) (wanted_none rfl) (by simp [execOp, Act.eval, e7, f7, go_sem, hx]) (sp_same (by kernel_rfl) hl hs hS (show (.agg (pv q) : Value) = _ from rfl)) trivial
            refine SSteps.cons (fun a w' vs σ hS hl hs hk => ?_) ?_
            · have e49 : a.tmps.getD 49 undef = (.int .i64 ↑cols : Value) := (sk_val hk 4 (by kernel_rfl) rfl rfl).trans ((hk.1 4 (by kernel_rfl)).1)
              have f49 := gd e49
              have e50 : a.tmps.getD 50 undef = (.agg (pv q) : Value) := (sk_val hk 5 (by kernel_rfl) rfl rfl).trans ((hk.1 5 (by kernel_rfl)).1)
              have f50 := gd e50
              have h0 : σ[0]? = some .none := hs 0 (by decide)
              exact ro_call (f := 78) (wanted_none rfl) rfl (by simp only [List.map_toArray, List.map_cons, List.map_nil, Act.eval, e49, e50] <;> rfl) (fun _ _ => by kernel_rfl) ((r14Blanks_any cols (by omega) q w0 w' _ hS).mono fun e w2 ⟨y, h1, h2⟩ => ⟨_, h1, sp_set 0 (.cells y (List.replicate cols (blank q))) (by kernel_rfl) (by simp) (by decide) hl hs (by rfl) (h2.place (sg h0)) ⟨y, rfl⟩, trivial⟩)
            refine SSteps.cons (fun a w' vs σ hS hl hs hk => ?_) ?_
            · have e51 : a.tmps.getD 51 undef = vs 6 := sk_val hk 6 (by kernel_rfl) rfl rfl
              have p51 : (fun u : Value => ∃ y, u = .agg #[y, .bool false]) (vs 6) := (hk.1 6 (by kernel_rfl)).1
              have f51 := gd e51
              obtain ⟨y, hx⟩ := p51
              have e9 := e51.trans hx
              have f9 := gd e9
              have h1 : σ[1]? = some .none := hs 1 (by decide)
              exact rs_run (wanted_none rfl) (exec_bsl rfl (by simp [Act.eval, e9, f9]) (run_bsl y false w')) (sp_set 1 (.box w'.heap.size 79 #[y, .bool false]) (by kernel_rfl) (by simp) (by decide) hl hs (by show Ob.box (blkOf (.slice (some ⟨w'.heap.size, 0, none⟩) 1 1)) 79 #[lineV (vs 6), .bool false] = _; rw [hx]; rfl) (hS.alloc1.place (sg h1)) ⟨_, rfl⟩)
            refine SSteps.cons (fun a w' vs σ hS hl hs hk => ?_) ?_
            · have e45 : a.tmps.getD 45 undef = (vf : Value) := (sk_val hk 0 (by kernel_rfl) rfl rfl).trans ((hk.1 0 (by kernel_rfl)).1)
              have f45 := gd e45
              have e52 : a.tmps.getD 52 undef = vs 7 := sk_val hk 7 (by kernel_rfl) rfl rfl
              have p52 : (fun u : Value => ∃ g, u = .slice (some ⟨g, 0, none⟩) 1 1) (vs 7) := (hk.1 7 (by kernel_rfl)).1
              have f52 := gd e52
              have h2 : σ[2]? = some (.lines vf (rollFresh d cols q)) := hs 2 (by decide)
              have h0 : σ[0]? = some (.cells (lineV (vs 6)) (List.replicate cols (blank q))) := hs 0 (by decide)
              have h1 : σ[1]? = some (.box (blkOf (vs 7)) 79 #[lineV (vs 6), .bool false]) := hs 1 (by decide)
              obtain ⟨g8, hg8⟩ := p52
              rw [hg8, show blkOf (.slice (some ⟨g8, 0, none⟩) 1 1) = g8 from rfl] at h1
              obtain ⟨v9, w9, hr, hS2, A9, c9, hv9⟩ := run_appL hS (k := 2) (j := 0) (ad := ⟨g8, 0, none⟩) (c := 1) (s := false) (sg h2) (sg h0) (by decide) (by rw [(hS.box (sg h1)).cell]; rfl) (by rw [add_at, (hS.box (sg h1)).cell]; rfl) (by simp [rollFresh]; omega) 35
              rw [show rollFresh d cols q ++ [((List.replicate cols (blank q)), false)] = (rollFresh (d + 1) cols q) from (List.replicate_succ' ..).symm] at hS2
              exact rs_run (wanted_none rfl) (exec_app rfl (by simp only [Act.eval]; exact e45) (by simp only [Act.eval]; exact e52.trans hg8) hr) (sp_set2 2 0 (.lines v9 (rollFresh (d + 1) cols q)) .none (by decide) (by kernel_rfl) (by simp) (by simp) (by decide) (by decide) hl hs (by rfl) (by rfl) hS2 ⟨A9, _, c9, hv9⟩)
            refine SSteps.cons (fun a w' vs σ hS hl hs hk => ?_) ?_
            · have e53 : a.tmps.getD 53 undef = vs 8 := sk_val hk 8 (by kernel_rfl) rfl rfl
              have p53 : (fun u : Value => ∃ A m c, u = .slice A m c) (vs 8) := (hk.1 8 (by kernel_rfl)).1
              have f53 := gd e53
              obtain ⟨A9, n9, c9, q9⟩ := p53
              have e9 := e53.trans q9
              have f9 := gd e9
              have h2 : σ[2]? = some (.lines (vs 8) (rollFresh (d + 1) cols q)) := hs 2 (by decide)
              rw [q9] at h2
              have hSS : Objs w0 w' ((σ ++ (.lines (.slice (some ⟨gr, 0, none⟩) L.length c) L :: .box b5 23 #[.int .i64 ↑top, .int .i64 ↑bot] :: os)).set 2 (.lines (.slice A9 n9 c9) (rollFresh (d + 1) cols q))) := by rw [set_self (sg h2)]; exact hS
              exact rs_run (v' := .slice A9 n9 c9) (w' := w') (wanted_none rfl) (by simp [execOp, Act.eval, e9, f9, go_sem]) (sp_set 2 (.lines (.slice A9 n9 c9) (rollFresh (d + 1) cols q)) (by kernel_rfl) (by simp) (by decide) hl hs (by rfl) hSS ⟨A9, n9, c9, rfl⟩)
            exact SSteps.nil
          · intro vs w' hS hv
            have q0 := (show vs 0 = (vf : Value) from hv 0 (by decide))
            have q1 := (show vs 1 = (.pointer (some ⟨x, 0, none⟩) : Value) from hv 1 (by decide))
            have q2 := (show vs 2 = (.pointer (some ⟨x, 0, none⟩) : Value) from hv 2 (by decide))
            have q3 := (show vs 3 = (.pointer (some ⟨x, 0, none⟩) : Value) from hv 3 (by decide))
            have q4 := (show vs 4 = (.int .i64 ↑cols : Value) from hv 4 (by decide))
            have q5 := (show vs 5 = (.agg (pv q) : Value) from hv 5 (by decide))
            have S2 := Lib.hid hS
            simp only [putL, Act.put, Nat.zero_add, Nat.reduceAdd, List.setIfInBounds_toArray, List.set_cons_succ, List.set_cons_zero, q0, q1, q2, q3, q4, q5]
            clear hS hv q0 q1 q2 q3 q4 q5
            go_wp2_with fail
            go_roundw
            case rel => exact ⟨d + 1, vs 9, by omega, rfl, by go_num, (S2.out.del 0).del 0⟩
            case measure => simp [intOf]; omega
        obtain rfl : k = d := by omega
        have S3 := Lib.hid (ord_b S2.out)
        obtain ⟨hxx, hfx, hzx⟩ := (S3.out.box (k := 3) rfl).facts
        clear hx5 hf5 hz5
        obtain ⟨hx5, hf5, hz5⟩ := (S3.out.box (k := 4) rfl).facts
        clear S2
        go_wp2_with fail
        refine wp_region_below (by kernel_rfl) (by kernel_rfl) ?_
        repeat (go_big_quiet_step (fail))
        refine wpQuiet_nil ?_
        intro w2 hb2
        have SZ := Lib.hid (S3.out.bel hb2).pad.pad
        clear hxx hfx hzx hx5 hf5 hz5 S3 hb2
        simp only [HBI.out]
        have hkz : (0 : Int) ≤ (k : Int) := by omega
        have hkz2 : (k : Int) ≤ (k : Int) := by omega
        have hkz3 : k ≤ c - top := by omega
        have hkz4 : ¬ c - top = k := by omega
        go_wp2_with fail
        refine wp_region_stage (w0 := w0) (os := (.lines vf (rollFresh k cols q) :: .box b7 31 (pv q) :: .box x 63 #[.int .i64 ↑cols, .slice (some ⟨gr, 0, none⟩) L.length c] :: .box b5 23 #[.int .i64 ↑top, .int .i64 ↑bot] :: os)) (by kernel_rfl) (by kernel_rfl) (by kernel_rfl) [(0, 3, [3], fun vs => .lines (vs 3) ((L.drop top).take k)), (1, 7, [7], fun vs => .lines (vs 7) ([] : List Ln)), (0, 8, [8], fun vs => .lines (vs 8) ((L.drop top).take k)), (1, 9, [9], fun vs => .lines (vs 9) ([] : List Ln))] [[], [], [], [0, 2], [], [], [], [1, 2], [0], [1]] [.none, .none, .lines (.slice (some ⟨gr, 0, none⟩) L.length c) L] (fun i u => match i with | 0 => u = (.slice (some ⟨gr, top * 2, none⟩) k (c - top) : Value) | 1 => u = (.int .i64 ↑k : Value) | 2 => u = (.slice (some ⟨gr, top * 2, none⟩) k (c - top) : Value) | 3 => ∃ A m c, u = .slice A m c | 4 => u = (.slice (some ⟨gr, top * 2, none⟩) k (c - top) : Value) | 5 => u = (.int .i64 ↑k : Value) | 6 => u = (.slice (some ⟨gr, top * 2 + k * 2, none⟩) 0 (c - top - k) : Value) | 7 => ∃ A m c, u = .slice A m c | 8 => ∃ A m c, u = .slice A m c | 9 => ∃ A m c, u = .slice A m c | _ => True) (fun vs => [.lines (vs 8) ((L.drop top).take k), .lines (vs 9) ([] : List Ln), .lines (.slice (some ⟨gr, 0, none⟩) L.length c) L]) (by kernel_rfl) (fun vs => by rfl) SZ.out ?_ ?_
        · refine SSteps.cons (fun a w' vs σ hS hl hs hk => ?_) ?_
          · have e13 : a.tmps.getD 13 undef = (.slice (some ⟨gr, top * 2, none⟩) k (c - top) : Value) := (sk_old hk 13 (by kernel_rfl)).trans rfl
            have f13 := gd e13
            exact ro_pure (v := .slice (some ⟨gr, top * 2, none⟩) k (c - top)) (wanted_none rfl) (by simp [execOp, Act.eval, e13, f13, go_sem]) (sp_same (by kernel_rfl) hl hs hS (show (.slice (some ⟨gr, top * 2, none⟩) k (c - top) : Value) = _ from rfl)) trivial
          refine SSteps.cons (fun a w' vs σ hS hl hs hk => ?_) ?_
          · have e10 : a.tmps.getD 10 undef = (.int .i64 ↑k : Value) := (sk_old hk 10 (by kernel_rfl)).trans rfl
            have f10 := gd e10
            exact ro_pure (v := .int .i64 ↑k) (wanted_none rfl) (by simp [execOp, Act.eval, e10, f10, go_sem]) (sp_same (by kernel_rfl) hl hs hS (show (.int .i64 ↑k : Value) = _ from rfl)) trivial
          refine SSteps.cons (fun a w' vs σ hS hl hs hk => ?_) ?_
          · have e66 : a.tmps.getD 66 undef = (.slice (some ⟨gr, top * 2, none⟩) k (c - top) : Value) := (sk_val hk 0 (by kernel_rfl) rfl rfl).trans ((hk.1 0 (by kernel_rfl)).1)
            have f66 := gd e66
            have e67 : a.tmps.getD 67 undef = (.int .i64 ↑k : Value) := (sk_val hk 1 (by kernel_rfl) rfl rfl).trans ((hk.1 1 (by kernel_rfl)).1)
            have f67 := gd e67
            exact ro_pure (v := .slice (some ⟨gr, top * 2, none⟩) k (c - top)) (wanted_none rfl) (by simp [execOp, Act.eval, e66, f66, e67, f67, go_sem, hkz, hkz2, hkz3, hkz4]) (sp_same (by kernel_rfl) hl hs hS (show (.slice (some ⟨gr, top * 2, none⟩) k (c - top) : Value) = _ from rfl)) trivial
          refine SSteps.cons (fun a w' vs σ hS hl hs hk => ?_) ?_
          · have e68 : a.tmps.getD 68 undef = (.slice (some ⟨gr, top * 2, none⟩) k (c - top) : Value) := (sk_val hk 2 (by kernel_rfl) rfl rfl).trans ((hk.1 2 (by kernel_rfl)).1)
            have f68 := gd e68
            have hn : σ[0]? = some .none := hs 0 (by decide)
            have h2 : σ[2]? = some (.lines (.slice (some ⟨gr, 0, none⟩) L.length c) L) := hs 2 (by decide)
            have hrl := (hS.linesRd' (sg h2)).2.2
            exact ro_call (f := 85) (wanted_none rfl) rfl (by simp only [List.map_toArray, List.map_cons, List.map_nil, Act.eval, e68] <;> rfl) (fun _ _ => by kernel_rfl) ((copies_at (L := ((L.drop top).take k)) (by simp; omega) (hrl.part0 (by omega) (by omega)) (by simp; omega) (fun l hl => HMILL.out l (List.mem_of_mem_drop (List.mem_of_mem_take hl)))).mono fun e w2 ⟨y, h1, h2⟩ => ⟨_, h1, sp_set 0 (.lines y ((L.drop top).take k)) (by kernel_rfl) (by simp) (by decide) hl hs (by rfl) ((hS.nest h2).place (sg hn)) (by obtain ⟨A, c, e, -⟩ := h2.linesRd (k := 0) rfl; exact ⟨A, _, c, e⟩), trivial⟩)
          refine SSteps.cons (fun a w' vs σ hS hl hs hk => ?_) ?_
          · have e13 : a.tmps.getD 13 undef = (.slice (some ⟨gr, top * 2, none⟩) k (c - top) : Value) := (sk_old hk 13 (by kernel_rfl)).trans rfl
            have f13 := gd e13
            exact ro_pure (v := .slice (some ⟨gr, top * 2, none⟩) k (c - top)) (wanted_none rfl) (by simp [execOp, Act.eval, e13, f13, go_sem]) (sp_same (by kernel_rfl) hl hs hS (show (.slice (some ⟨gr, top * 2, none⟩) k (c - top) : Value) = _ from rfl)) trivial
          refine SSteps.cons (fun a w' vs σ hS hl hs hk => ?_) ?_
          · have e10 : a.tmps.getD 10 undef = (.int .i64 ↑k : Value) := (sk_old hk 10 (by kernel_rfl)).trans rfl
            have f10 := gd e10
            exact ro_pure (v := .int .i64 ↑k) (wanted_none rfl) (by simp [execOp, Act.eval, e10, f10, go_sem]) (sp_same (by kernel_rfl) hl hs hS (show (.int .i64 ↑k : Value) = _ from rfl)) trivial
          refine SSteps.cons (fun a w' vs σ hS hl hs hk => ?_) ?_
          · have e70 : a.tmps.getD 70 undef = (.slice (some ⟨gr, top * 2, none⟩) k (c - top) : Value) := (sk_val hk 4 (by kernel_rfl) rfl rfl).trans ((hk.1 4 (by kernel_rfl)).1)
            have f70 := gd e70
            have e71 : a.tmps.getD 71 undef = (.int .i64 ↑k : Value) := (sk_val hk 5 (by kernel_rfl) rfl rfl).trans ((hk.1 5 (by kernel_rfl)).1)
            have f71 := gd e71
            exact ro_pure (v := .slice (some ⟨gr, top * 2 + k * 2, none⟩) 0 (c - top - k)) (wanted_none rfl) (by simp [execOp, Act.eval, e70, f70, e71, f71, go_sem, hkz, hkz2, hkz3, hkz4]) (sp_same (by kernel_rfl) hl hs hS (show (.slice (some ⟨gr, top * 2 + k * 2, none⟩) 0 (c - top - k) : Value) = _ from rfl)) trivial
          refine SSteps.cons (fun a w' vs σ hS hl hs hk => ?_) ?_
          · have e72 : a.tmps.getD 72 undef = (.slice (some ⟨gr, top * 2 + k * 2, none⟩) 0 (c - top - k) : Value) := (sk_val hk 6 (by kernel_rfl) rfl rfl).trans ((hk.1 6 (by kernel_rfl)).1)
            have f72 := gd e72
            have hn : σ[1]? = some .none := hs 1 (by decide)
            have h2 : σ[2]? = some (.lines (.slice (some ⟨gr, 0, none⟩) L.length c) L) := hs 2 (by decide)
            have hrl := (hS.linesRd' (sg h2)).2.2
            exact ro_call (f := 85) (wanted_none rfl) rfl (by simp only [List.map_toArray, List.map_cons, List.map_nil, Act.eval, e72] <;> rfl) (fun _ _ => by kernel_rfl) ((copies_at (L := ([] : List Ln)) rfl (RdL.empty _ _ _) (by simp) (fun l hl => by simp at hl)).mono fun e w2 ⟨y, h1, h2⟩ => ⟨_, h1, sp_set 1 (.lines y ([] : List Ln)) (by kernel_rfl) (by simp) (by decide) hl hs (by rfl) ((hS.nest h2).place (sg hn)) (by obtain ⟨A, c, e, -⟩ := h2.linesRd (k := 0) rfl; exact ⟨A, _, c, e⟩), trivial⟩)
          refine SSteps.cons (fun a w' vs σ hS hl hs hk => ?_) ?_
          · have e69 : a.tmps.getD 69 undef = vs 3 := sk_val hk 3 (by kernel_rfl) rfl rfl
            have p69 : (fun u : Value => ∃ A m c, u = .slice A m c) (vs 3) := (hk.1 3 (by kernel_rfl)).1
            have f69 := gd e69
            obtain ⟨A9, n9, c9, q9⟩ := p69
            have e9 := e69.trans q9
            have f9 := gd e9
            have h2 : σ[0]? = some (.lines (vs 3) ((L.drop top).take k)) := hs 0 (by decide)
            rw [q9] at h2
            have hSS : Objs w0 w' ((σ ++ (.lines vf (rollFresh k cols q) :: .box b7 31 (pv q) :: .box x 63 #[.int .i64 ↑cols, .slice (some ⟨gr, 0, none⟩) L.length c] :: .box b5 23 #[.int .i64 ↑top, .int .i64 ↑bot] :: os)).set 0 (.lines (.slice A9 n9 c9) ((L.drop top).take k))) := by rw [set_self (sg h2)]; exact hS
            exact rs_run (v' := .slice A9 n9 c9) (w' := w') (wanted_none rfl) (by simp [execOp, Act.eval, e9, f9, go_sem]) (sp_set 0 (.lines (.slice A9 n9 c9) ((L.drop top).take k)) (by kernel_rfl) (by simp) (by decide) hl hs (by rfl) hSS ⟨A9, n9, c9, rfl⟩)
          refine SSteps.cons (fun a w' vs σ hS hl hs hk => ?_) ?_
          · have e73 : a.tmps.getD 73 undef = vs 7 := sk_val hk 7 (by kernel_rfl) rfl rfl
            have p73 : (fun u : Value => ∃ A m c, u = .slice A m c) (vs 7) := (hk.1 7 (by kernel_rfl)).1
            have f73 := gd e73
            obtain ⟨A9, n9, c9, q9⟩ := p73
            have e9 := e73.trans q9
            have f9 := gd e9
            have h2 : σ[1]? = some (.lines (vs 7) ([] : List Ln)) := hs 1 (by decide)
            rw [q9] at h2
            have hSS : Objs w0 w' ((σ ++ (.lines vf (rollFresh k cols q) :: .box b7 31 (pv q) :: .box x 63 #[.int .i64 ↑cols, .slice (some ⟨gr, 0, none⟩) L.length c] :: .box b5 23 #[.int .i64 ↑top, .int .i64 ↑bot] :: os)).set 1 (.lines (.slice A9 n9 c9) ([] : List Ln))) := by rw [set_self (sg h2)]; exact hS
            exact rs_run (v' := .slice A9 n9 c9) (w' := w') (wanted_none rfl) (by simp [execOp, Act.eval, e9, f9, go_sem]) (sp_set 1 (.lines (.slice A9 n9 c9) ([] : List Ln)) (by kernel_rfl) (by simp) (by decide) hl hs (by rfl) hSS ⟨A9, n9, c9, rfl⟩)
          exact SSteps.nil
        · intro vs w' hS hv
          have q0 := (show vs 0 = (.slice (some ⟨gr, top * 2, none⟩) k (c - top) : Value) from hv 0 (by decide))
          have q1 := (show vs 1 = (.int .i64 ↑k : Value) from hv 1 (by decide))
          have q2 := (show vs 2 = (.slice (some ⟨gr, top * 2, none⟩) k (c - top) : Value) from hv 2 (by decide))
          have q4 := (show vs 4 = (.slice (some ⟨gr, top * 2, none⟩) k (c - top) : Value) from hv 4 (by decide))
          have q5 := (show vs 5 = (.int .i64 ↑k : Value) from hv 5 (by decide))
          have q6 := (show vs 6 = (.slice (some ⟨gr, top * 2 + k * 2, none⟩) 0 (c - top - k) : Value) from hv 6 (by decide))
          obtain ⟨Ag, mg, cg, qg⟩ := (show ∃ A m c, vs 8 = .slice A m c from hv 8 (by decide))
          obtain ⟨As, ms, cs, qs⟩ := (show ∃ A m c, vs 9 = .slice A m c from hv 9 (by decide))
          rw [qg, qs] at hS
          obtain ⟨A1, n1, c1, q1⟩ := (show ∃ A m c, vs 3 = .slice A m c from hv 3 (by decide))
          obtain ⟨A2, n2, c2, q2⟩ := (show ∃ A m c, vs 7 = .slice A m c from hv 7 (by decide))
          have S2 := Lib.hid hS
          simp only [putL, Act.put, Nat.zero_add, Nat.reduceAdd, List.setIfInBounds_toArray, List.set_cons_succ, List.set_cons_zero, q0, q1, q2, q4, q5, q6]
          clear hS hv q0 q1 q2 q4 q5 q6
          simp only [qg, qs, q1, q2]
          have hGl0 : ((L.drop top).take k).length = k := by simp; omega
          have emg : k = mg := ((show Objs w0 w' (.lines (.slice Ag mg cg) ((L.drop top).take k) :: _) from S2.out).linesRd' (k := 0) rfl |>.1.trans hGl0).symm
          have ems : ms = 0 := (show Objs w0 w' (_ :: .lines (.slice As ms cs) ([] : List Ln) :: _) from S2.out).linesRd' (k := 1) rfl |>.1
          subst emg ems
          obtain ⟨G, hG⟩ : ∃ G, G = (L.drop top).take k := ⟨_, rfl⟩
          have hS2 := (show Objs w0 w' (.lines (.slice Ag k cg) G :: .lines (.slice As 0 cs) [] :: .lines (.slice (some ⟨gr, 0, none⟩) L.length c) L :: .lines vf (rollFresh k cols q) :: .box b7 31 (pv q) :: .box x 63 #[.int .i64 cols, .slice (some ⟨gr, 0, none⟩) L.length c] :: .box b5 23 #[.int .i64 top, .int .i64 bot] :: os) from by rw [hG]; exact S2.out)
          have HGONE := Lib.hid (show G = rollGone top bot n L by rw [hG]; exact rgone_pos hn HMANY.out HKK.out hkm)
          obtain ⟨T, Ts, Tf, ⟨hT, hTs, hTf⟩, hos, hof, hO⟩ := roll_open hS2
          have hSl : Ts.length = 0 := by rw [← lnP_length, hTs]; rfl
          have hFl : Tf.length = k := by rw [← lnP_length, hTf]; simp [rollFresh]
          have hTl : T.length = L.length := by rw [← lnP_length, hT]
          obtain ⟨Af, cf, ef, hcf, -, -, hgf⟩ := hO.headsForm (k := 2) rfl
          rw [hdP_length, hFl] at ef hcf hgf
          obtain ⟨gf, rfl, hgfz, -, -⟩ := hgf hk0
          subst ef
          clear hgf
          have HLEFT := Lib.hid (rleft_pos (T := T) (Ts := Ts) (Tf := Tf) hn HMANY.out htb HKK.out hT (by rw [hTs, Nat.sub_self]; simp [lastHard, softMod]) hTf)
          obtain ⟨va, wa, hra, hSa, Aa, ca, hva⟩ := run_appH hO (k := 1) rfl (ad := ⟨gf, 0, none⟩) (m := k) (c := cf) (ds := hdP Tf) (by rw [hdP_length, hFl]) hcf (fun i y hy => by have := hO.headsSub (k := 2) (a := 0) (m := k) rfl (by rw [hdP_length]; omega) i y (by rw [List.drop_zero, List.take_of_length_le (by rw [hdP_length]; omega)]; exact hy); rwa [Nat.zero_mul] at this) hof (by rw [hdP_length, hdP_length]; omega) 35
          rw [hdP_length, hdP_length, hSl, hFl, Nat.zero_add] at hva
          subst hva
          obtain ⟨All, hAll⟩ : ∃ All, All = Ts ++ Tf := ⟨_, rfl⟩
          have hAl : All.length = k := by rw [hAll, List.length_append, hSl, hFl]; omega
          rw [← hdP_append, ← hAll] at hSa
          have hPP : (piP Tf ++ piP Ts).Perm (piP All) := by rw [hAll, piP_append]; exact List.perm_append_comm
          have HSLI := Lib.hid (show ∀ y ∈ All, ∃ A n c, y.1 = .slice A n c from fun y hy => (hO.pileForm (k := 5) rfl) (y.1, y.2.1) (List.mem_append.2 (.inr (hPP.mem_iff.2 (List.mem_map.2 ⟨y, hy, rfl⟩)))))
          rw [← hAll] at HLEFT
          clear hAll
          have hSb := (show Objs w0 wa (.heads (.slice (some ⟨gr, 0, none⟩) L.length c) (hdP T) :: .heads (.slice Aa k ca) (hdP All) :: .heads (.slice (some ⟨gf, 0, none⟩) k cf) (hdP Tf) :: .box x 63 #[.int .i64 cols, .slice (some ⟨gr, 0, none⟩) L.length c] :: .box b5 23 #[.int .i64 top, .int .i64 bot] :: .pile (piP T ++ (piP Tf ++ piP Ts)) :: .lines (.slice Ag k cg) G :: .box b7 31 (pv q) :: os) from hSa).del 2
          have HRA := Lib.hid hra
          obtain ⟨A8, c8, e8, -, -, -, hg8⟩ := (show Objs w0 wa (.heads (.slice (some ⟨gr, 0, none⟩) L.length c) (hdP T) :: .heads (.slice Aa k ca) (hdP All) :: _) from hSb).headsForm (k := 1) rfl
          simp only [Value.slice.injEq] at e8
          obtain ⟨rfl, -, rfl⟩ := e8
          obtain ⟨ga, rfl, -, -, -⟩ := hg8 (by rw [hdP_length]; omega)
          have HPERM := Lib.hid (@rperm T Ts Tf top k All hPP)
          obtain ⟨P, hP⟩ : ∃ P, P = piP T ++ (piP Tf ++ piP Ts) := ⟨_, rfl⟩
          rw [← hP] at HPERM hSb
          obtain ⟨T1, hT1⟩ : ∃ T1, T1 = T.take top := ⟨_, rfl⟩
          obtain ⟨Rr, hRr⟩ : ∃ Rr, Rr = T.drop top := ⟨_, rfl⟩
          have hTT : hdP T = hdP T1 ++ (hdP (All.take 0) ++ hdP (Rr.drop 0)) := by rw [hT1, hRr]; simp [hdP]
          have HT1 := Lib.hid (show T1.length = top by rw [hT1]; simp; omega)
          have HRL := Lib.hid (show Rr.length = L.length - top by rw [hRr]; simp; omega)
          rw [← hT1, ← hRr] at HPERM
          rw [← hT1, ← hRr] at HLEFT
          rw [hTT] at hSb
          have SB := Lib.hid hSb
          have HAL := Lib.hid hAl
          clear hSa hSb hra hO hg8 hP hT1 hRr hTT hPP hS2 hT hTs hTf hos hof hSl hFl hTl hG hcf hGl0 hAl SZ
          go_wp2_with (at_builtin; refine wpList_app _ _ (wanted_none rfl) rfl rfl rfl HRA.out ?_)
          go_loopw [17] (fun vi wr => ∃ d : Nat, d ≤ k ∧ vi = .int .i64 d ∧ Objs w0 wr (.heads (.slice (some ⟨gr, 0, none⟩) L.length c) (hdP T1 ++ (hdP (All.take d) ++ hdP (Rr.drop d))) :: .heads (.slice (some ⟨ga, 0, none⟩) k ca) (hdP All) :: .box x 63 #[.int .i64 cols, .slice (some ⟨gr, 0, none⟩) L.length c] :: .box b5 23 #[.int .i64 top, .int .i64 bot] :: .pile P :: .lines (.slice Ag k cg) G :: .box b7 31 (pv q) :: os)) (fun vi _ => k - (intOf vi).toNat)
          case atStart => exact ⟨0, by omega, rfl, SB.out⟩
          case round =>
            obtain ⟨d, hdm, rfl, hS⟩ := hrel
            have S8 := Lib.hid hS
            clear hS SB
            by_cases hlt : d < k
            case neg =>
              have hX := S8.out
              have hd : d = k := by omega
              rw [hd, List.take_of_length_le (by rw [HAL.out]; exact Nat.le_refl _), ← hdP_append, ← hdP_append] at hX
              have hX2 := roll_shut HPERM.out hX
              obtain ⟨L1, hL1⟩ : ∃ L1, L1 = lnP (T1 ++ (All ++ Rr.drop k)) := ⟨_, rfl⟩
              have HLF := HLEFT
              rw [← hL1] at hX2 HLF
              have hL1l : L1.length = L.length := by rw [hL1, lnP_length]; simp only [List.length_append, List.length_drop]; have := HT1.out; have := HRL.out; have := HAL.out; omega
              have SX := Lib.hid hX2
              obtain ⟨hx5, hf5, hz5⟩ := (hX2.box (k := 2) rfl).facts
              clear hX hX2 hd hL1 S8
              by_cases ht0 : top = 0
              · have HT0 := Lib.hid (show topHard top L1 = L1 by unfold topHard; rw [if_neg (by omega)])
                have htg : ¬ (0 : Int) < (top : Int) := by omega
                have SF := Lib.hid (fin_roll2 SX.out)
                clear ht0
                go_wp2_with fail
                go_ret
                exact ⟨Ag, k, cg, rfl, by rw [← HGONE.out, ← HLF.out, HT0.out]; exact SF.out⟩
              · have htg : (0 : Int) < (top : Int) := by omega
                obtain ⟨l9, hlt1⟩ := get_of (show top - 1 < L1.length by omega)
                have HT0 := Lib.hid (show L1.set (top - 1) (l9.1, false) = topHard top L1 by unfold topHard; rw [if_pos (by omega), softMod_some hlt1])
                have HWT := Lib.hid (show IntKind.i64.wrap ((top : Int) - 1) = (top : Int) - 1 from IntWalk.i64_in _ (by omega))
                have htz : (0 : Int) ≤ (top : Int) - 1 := by omega
                have htz2 : (top : Int) - 1 < (L.length : Int) := by omega
                have htz3 : ¬ (top : Int) < 1 := by omega
                have htn : ((top : Int) - 1).toNat = top - 1 := by omega
                have SY := SX
                go_upto_region 27 with (fail)
                refine wp_region_stage (w0 := w0) (os := (.lines (.slice Ag k cg) G :: .box b7 31 (pv q) :: os)) (by kernel_rfl) (by kernel_rfl) (by kernel_rfl) [(0, 9, [], fun vs => .lines (.slice (some ⟨gr, 0, none⟩) L.length c) (L1.set (top - 1) (l9.1, false)))] [[], [], [], [1], [], [2], [], [], [], [0]] [.lines (.slice (some ⟨gr, 0, none⟩) L.length c) L1, .box x 63 #[.int .i64 ↑cols, .slice (some ⟨gr, 0, none⟩) L.length c], .box b5 23 #[.int .i64 ↑top, .int .i64 ↑bot]] (fun i u => match i with | 0 => u = (.pointer (some ⟨x, 0, none⟩) : Value) | 1 => u = (.pointer (some ⟨x, 0, none⟩) : Value) | 2 => u = (.pointer (some ⟨x, 1, none⟩) : Value) | 3 => u = (.slice (some ⟨gr, 0, none⟩) L.length c : Value) | 4 => u = (.pointer (some ⟨b5, 0, none⟩) : Value) | 5 => u = (.int .i64 ↑top : Value) | 6 => u = (.int .i64 (↑top - 1) : Value) | 7 => u = (.pointer (some ⟨gr, (top - 1) * 2, none⟩) : Value) | 8 => u = (.pointer (some ⟨gr, (top - 1) * 2 + 1, none⟩) : Value) | 9 => True | _ => True) (fun vs => [.lines (.slice (some ⟨gr, 0, none⟩) L.length c) (L1.set (top - 1) (l9.1, false)), .box x 63 #[.int .i64 ↑cols, .slice (some ⟨gr, 0, none⟩) L.length c], .box b5 23 #[.int .i64 ↑top, .int .i64 ↑bot]]) (by kernel_rfl) (fun vs => by rfl) SY.out ?_ ?_
                · refine SSteps.cons (fun a w' vs σ hS hl hs hk => ?_) ?_
                  · have e0 : a.tmps.getD 0 undef = (.pointer (some ⟨x, 0, none⟩) : Value) := (sk_old hk 0 (by kernel_rfl)).trans rfl
                    have f0 := gd e0
                    exact ro_pure (v := .pointer (some ⟨x, 0, none⟩)) (wanted_none rfl) (by simp [execOp, Act.eval, e0, f0, go_sem]) (sp_same (by kernel_rfl) hl hs hS (show (.pointer (some ⟨x, 0, none⟩) : Value) = _ from rfl)) trivial
                  refine SSteps.cons (fun a w' vs σ hS hl hs hk => ?_) ?_
                  · have e124 : a.tmps.getD 124 undef = (.pointer (some ⟨x, 0, none⟩) : Value) := (sk_val hk 0 (by kernel_rfl) rfl rfl).trans ((hk.1 0 (by kernel_rfl)).1)
                    have f124 := gd e124
                    exact ro_pure (v := .pointer (some ⟨x, 0, none⟩)) (wanted_none rfl) (by simp [execOp, Act.eval, e124, f124, go_sem]) (sp_same (by kernel_rfl) hl hs hS (show (.pointer (some ⟨x, 0, none⟩) : Value) = _ from rfl)) trivial
                  refine SSteps.cons (fun a w' vs σ hS hl hs hk => ?_) ?_
                  · have e125 : a.tmps.getD 125 undef = (.pointer (some ⟨x, 0, none⟩) : Value) := (sk_val hk 1 (by kernel_rfl) rfl rfl).trans ((hk.1 1 (by kernel_rfl)).1)
                    have f125 := gd e125
                    exact ro_pure (v := .pointer (some ⟨x, 1, none⟩)) (wanted_none rfl) (by simp [execOp, Act.eval, e125, f125, go_sem]) (sp_same (by kernel_rfl) hl hs hS (show (.pointer (some ⟨x, 1, none⟩) : Value) = _ from rfl)) trivial
                  refine SSteps.cons (fun a w' vs σ hS hl hs hk => ?_) ?_
                  · have e126 : a.tmps.getD 126 undef = (.pointer (some ⟨x, 1, none⟩) : Value) := (sk_val hk 2 (by kernel_rfl) rfl rfl).trans ((hk.1 2 (by kernel_rfl)).1)
                    have f126 := gd e126
                    have hx := (hS.box (sg (hs 1 (by decide)))).cell
                    exact ro_pure (v := .slice (some ⟨gr, 0, none⟩) L.length c) (wanted_none rfl) (by simp [execOp, Act.eval, e126, f126, go_sem, hx]) (sp_same (by kernel_rfl) hl hs hS (show (.slice (some ⟨gr, 0, none⟩) L.length c : Value) = _ from rfl)) trivial
                  refine SSteps.cons (fun a w' vs σ hS hl hs hk => ?_) ?_
                  · have e5 : a.tmps.getD 5 undef = (.pointer (some ⟨b5, 0, none⟩) : Value) := (sk_old hk 5 (by kernel_rfl)).trans rfl
                    have f5 := gd e5
                    exact ro_pure (v := .pointer (some ⟨b5, 0, none⟩)) (wanted_none rfl) (by simp [execOp, Act.eval, e5, f5, go_sem]) (sp_same (by kernel_rfl) hl hs hS (show (.pointer (some ⟨b5, 0, none⟩) : Value) = _ from rfl)) trivial
                  refine SSteps.cons (fun a w' vs σ hS hl hs hk => ?_) ?_
                  · have e128 : a.tmps.getD 128 undef = (.pointer (some ⟨b5, 0, none⟩) : Value) := (sk_val hk 4 (by kernel_rfl) rfl rfl).trans ((hk.1 4 (by kernel_rfl)).1)
                    have f128 := gd e128
                    have hx := (hS.box (sg (hs 2 (by decide)))).cell
                    exact ro_pure (v := .int .i64 ↑top) (wanted_none rfl) (by simp [execOp, Act.eval, e128, f128, go_sem, hx]) (sp_same (by kernel_rfl) hl hs hS (show (.int .i64 ↑top : Value) = _ from rfl)) trivial
                  refine SSteps.cons (fun a w' vs σ hS hl hs hk => ?_) ?_
                  · have e129 : a.tmps.getD 129 undef = (.int .i64 ↑top : Value) := (sk_val hk 5 (by kernel_rfl) rfl rfl).trans ((hk.1 5 (by kernel_rfl)).1)
                    have f129 := gd e129
                    exact ro_pure (v := .int .i64 (↑top - 1)) (wanted_none rfl) (by simp [execOp, Act.eval, e129, f129, go_sem, HWT.out]) (sp_same (by kernel_rfl) hl hs hS (show (.int .i64 (↑top - 1) : Value) = _ from rfl)) trivial
                  refine SSteps.cons (fun a w' vs σ hS hl hs hk => ?_) ?_
                  · have e127 : a.tmps.getD 127 undef = (.slice (some ⟨gr, 0, none⟩) L.length c : Value) := (sk_val hk 3 (by kernel_rfl) rfl rfl).trans ((hk.1 3 (by kernel_rfl)).1)
                    have f127 := gd e127
                    have e130 : a.tmps.getD 130 undef = (.int .i64 (↑top - 1) : Value) := (sk_val hk 6 (by kernel_rfl) rfl rfl).trans ((hk.1 6 (by kernel_rfl)).1)
                    have f130 := gd e130
                    exact ro_pure (v := .pointer (some ⟨gr, (top - 1) * 2, none⟩)) (wanted_none rfl) (by simp [execOp, Act.eval, e127, f127, e130, f130, go_sem, htz, htz2, htn, htz3]) (sp_same (by kernel_rfl) hl hs hS (show (.pointer (some ⟨gr, (top - 1) * 2, none⟩) : Value) = _ from rfl)) trivial
                  refine SSteps.cons (fun a w' vs σ hS hl hs hk => ?_) ?_
                  · have e131 : a.tmps.getD 131 undef = (.pointer (some ⟨gr, (top - 1) * 2, none⟩) : Value) := (sk_val hk 7 (by kernel_rfl) rfl rfl).trans ((hk.1 7 (by kernel_rfl)).1)
                    have f131 := gd e131
                    exact ro_pure (v := .pointer (some ⟨gr, (top - 1) * 2 + 1, none⟩)) (wanted_none rfl) (by simp [execOp, Act.eval, e131, f131, go_sem]) (sp_same (by kernel_rfl) hl hs hS (show (.pointer (some ⟨gr, (top - 1) * 2 + 1, none⟩) : Value) = _ from rfl)) trivial
                  refine SSteps.cons (fun a w' vs σ hS hl hs hk => ?_) ?_
                  · have e132 : a.tmps.getD 132 undef = (.pointer (some ⟨gr, (top - 1) * 2 + 1, none⟩) : Value) := (sk_val hk 8 (by kernel_rfl) rfl rfl).trans ((hk.1 8 (by kernel_rfl)).1)
                    have f132 := gd e132
                    have h1 : σ[0]? = some (.lines (.slice (some ⟨gr, 0, none⟩) L.length c) L1) := hs 0 (by decide)
                    obtain ⟨F9, bs9, hF9, -⟩ := hS.get (sg h1)
                    obtain ⟨A9, c9, e9, -, -, -, hg9⟩ := hF9.form
                    simp only [Value.slice.injEq] at e9
                    obtain ⟨rfl, -, rfl⟩ := e9
                    obtain ⟨g9, e9', hz, -, hso, hf⟩ := hg9 (by omega)
                    cases e9'
                    have hx := hso _ _ hlt1
                    exact rstep_store (w2 := w'.setCell ⟨gr, (top - 1) * 2 + 1, none⟩ (.bool false)) (wanted_none rfl) rfl (by simp [execOp, Act.eval, e132, f132, hx, hf, hz, go_sem]) (sp_set 0 (.lines (.slice (some ⟨gr, 0, none⟩) L.length c) (L1.set (top - 1) (l9.1, false))) (by kernel_rfl) (by simp) (by decide) hl hs (by rfl) (hS.storeSoft (sg h1) hlt1) trivial) trivial
                  exact SSteps.nil
                · intro vs w' hS hv
                  have q0 := (show vs 0 = (.pointer (some ⟨x, 0, none⟩) : Value) from hv 0 (by decide))
                  have q1 := (show vs 1 = (.pointer (some ⟨x, 0, none⟩) : Value) from hv 1 (by decide))
                  have q2 := (show vs 2 = (.pointer (some ⟨x, 1, none⟩) : Value) from hv 2 (by decide))
                  have q3 := (show vs 3 = (.slice (some ⟨gr, 0, none⟩) L.length c : Value) from hv 3 (by decide))
                  have q4 := (show vs 4 = (.pointer (some ⟨b5, 0, none⟩) : Value) from hv 4 (by decide))
                  have q5 := (show vs 5 = (.int .i64 ↑top : Value) from hv 5 (by decide))
                  have q6 := (show vs 6 = (.int .i64 (↑top - 1) : Value) from hv 6 (by decide))
                  have q7 := (show vs 7 = (.pointer (some ⟨gr, (top - 1) * 2, none⟩) : Value) from hv 7 (by decide))
                  have q8 := (show vs 8 = (.pointer (some ⟨gr, (top - 1) * 2 + 1, none⟩) : Value) from hv 8 (by decide))
                  have S2 := Lib.hid hS
                  simp only [putL, Act.put, Nat.zero_add, Nat.reduceAdd, List.setIfInBounds_toArray, List.set_cons_succ, List.set_cons_zero, q0, q1, q2, q3, q4, q5, q6, q7, q8]
                  clear hS hv q0 q1 q2 q3 q4 q5 q6 q7 q8
                  have S9 := S2.out
                  rw [HT0.out] at S9
                  have SF := Lib.hid (fin_roll2 S9)
                  clear S9 S2
                  go_wp2_with fail
                  go_ret
                  exact ⟨Ag, k, cg, rfl, by rw [← HGONE.out, ← HLF.out]; exact SF.out⟩
            have hdA : d < All.length := by rw [HAL.out]; exact hlt
            have hdR : d < Rr.length := by rw [HRL.out]; omega
            obtain ⟨Ad, nd, cd, hsl⟩ := HSLI.out All[d] (List.getElem_mem hdA)
            have hdz : (0 : Int) ≤ (d : Int) := by omega
            have hdz2 : (d : Int) < (k : Int) := by omega
            have htz : (0 : Int) ≤ (top : Int) + (d : Int) := by omega
            have htz2 : (top : Int) + (d : Int) < (L.length : Int) := by omega
            have htn : ((top : Int) + (d : Int)).toNat = top + d := by omega
            have HWD := Lib.hid (show IntKind.i64.wrap ((top : Int) + (d : Int)) = (top : Int) + (d : Int) from IntWalk.i64_in _ (by omega))
            have HHL := Lib.hid (show (hdP T1 ++ (hdP (All.take d) ++ hdP (Rr.drop d))).length = top + (d + (Rr.length - d)) by simp only [List.length_append, hdP_length, List.length_drop, List.length_take, HT1.out]; omega)
            go_upto_region 25 with (fail)
            refine wp_region_stage (w0 := w0) (os := (.pile P :: .lines (.slice Ag k cg) G :: .box b7 31 (pv q) :: os)) (by kernel_rfl) (by kernel_rfl) (by kernel_rfl) [(0, 13, [], fun vs => .heads (.slice (some ⟨gr, 0, none⟩) L.length c) (List.set (hdP T1 ++ (hdP (All.take d) ++ hdP (Rr.drop d))) (top + d) (All[d].1, All[d].2.2)))] [[], [], [], [2], [], [3], [], [], [], [], [], [1], [], [0]] [.heads (.slice (some ⟨gr, 0, none⟩) L.length c) (hdP T1 ++ (hdP (All.take d) ++ hdP (Rr.drop d))), .heads (.slice (some ⟨ga, 0, none⟩) k ca) (hdP All), .box x 63 #[.int .i64 ↑cols, .slice (some ⟨gr, 0, none⟩) L.length c], .box b5 23 #[.int .i64 ↑top, .int .i64 ↑bot]] (fun i u => match i with | 0 => u = (.pointer (some ⟨x, 0, none⟩) : Value) | 1 => u = (.pointer (some ⟨x, 0, none⟩) : Value) | 2 => u = (.pointer (some ⟨x, 1, none⟩) : Value) | 3 => u = (.slice (some ⟨gr, 0, none⟩) L.length c : Value) | 4 => u = (.pointer (some ⟨b5, 0, none⟩) : Value) | 5 => u = (.int .i64 ↑top : Value) | 6 => u = (.int .i64 ↑d : Value) | 7 => u = (.int .i64 (↑top + ↑d) : Value) | 8 => u = (.slice (some ⟨ga, 0, none⟩) k ca : Value) | 9 => u = (.int .i64 ↑d : Value) | 10 => u = (.pointer (some ⟨ga, d * 2, none⟩) : Value) | 11 => u = (.agg #[All[d].1, .bool All[d].2.2] : Value) | 12 => u = (.pointer (some ⟨gr, (top + d) * 2, none⟩) : Value) | 13 => True | _ => True) (fun vs => [.heads (.slice (some ⟨gr, 0, none⟩) L.length c) (List.set (hdP T1 ++ (hdP (All.take d) ++ hdP (Rr.drop d))) (top + d) (All[d].1, All[d].2.2)), .heads (.slice (some ⟨ga, 0, none⟩) k ca) (hdP All), .box x 63 #[.int .i64 ↑cols, .slice (some ⟨gr, 0, none⟩) L.length c], .box b5 23 #[.int .i64 ↑top, .int .i64 ↑bot]]) (by kernel_rfl) (fun vs => by rfl) S8.out ?_ ?_
            · refine SSteps.cons (fun a w' vs σ hS hl hs hk => ?_) ?_
              · have e0 : a.tmps.getD 0 undef = (.pointer (some ⟨x, 0, none⟩) : Value) := (sk_old hk 0 (by kernel_rfl)).trans rfl
                have f0 := gd e0
                exact ro_pure (v := .pointer (some ⟨x, 0, none⟩)) (wanted_none rfl) (by simp [execOp, Act.eval, e0, f0, go_sem]) (sp_same (by kernel_rfl) hl hs hS (show (.pointer (some ⟨x, 0, none⟩) : Value) = _ from rfl)) trivial
              refine SSteps.cons (fun a w' vs σ hS hl hs hk => ?_) ?_
              · have e108 : a.tmps.getD 108 undef = (.pointer (some ⟨x, 0, none⟩) : Value) := (sk_val hk 0 (by kernel_rfl) rfl rfl).trans ((hk.1 0 (by kernel_rfl)).1)
                have f108 := gd e108
                exact ro_pure (v := .pointer (some ⟨x, 0, none⟩)) (wanted_none rfl) (by simp [execOp, Act.eval, e108, f108, go_sem]) (sp_same (by kernel_rfl) hl hs hS (show (.pointer (some ⟨x, 0, none⟩) : Value) = _ from rfl)) trivial
              refine SSteps.cons (fun a w' vs σ hS hl hs hk => ?_) ?_
              · have e109 : a.tmps.getD 109 undef = (.pointer (some ⟨x, 0, none⟩) : Value) := (sk_val hk 1 (by kernel_rfl) rfl rfl).trans ((hk.1 1 (by kernel_rfl)).1)
                have f109 := gd e109
                exact ro_pure (v := .pointer (some ⟨x, 1, none⟩)) (wanted_none rfl) (by simp [execOp, Act.eval, e109, f109, go_sem]) (sp_same (by kernel_rfl) hl hs hS (show (.pointer (some ⟨x, 1, none⟩) : Value) = _ from rfl)) trivial
              refine SSteps.cons (fun a w' vs σ hS hl hs hk => ?_) ?_
              · have e110 : a.tmps.getD 110 undef = (.pointer (some ⟨x, 1, none⟩) : Value) := (sk_val hk 2 (by kernel_rfl) rfl rfl).trans ((hk.1 2 (by kernel_rfl)).1)
                have f110 := gd e110
                have hx := (hS.box (sg (hs 2 (by decide)))).cell
                exact ro_pure (v := .slice (some ⟨gr, 0, none⟩) L.length c) (wanted_none rfl) (by simp [execOp, Act.eval, e110, f110, go_sem, hx]) (sp_same (by kernel_rfl) hl hs hS (show (.slice (some ⟨gr, 0, none⟩) L.length c : Value) = _ from rfl)) trivial
              refine SSteps.cons (fun a w' vs σ hS hl hs hk => ?_) ?_
              · have e5 : a.tmps.getD 5 undef = (.pointer (some ⟨b5, 0, none⟩) : Value) := (sk_old hk 5 (by kernel_rfl)).trans rfl
                have f5 := gd e5
                exact ro_pure (v := .pointer (some ⟨b5, 0, none⟩)) (wanted_none rfl) (by simp [execOp, Act.eval, e5, f5, go_sem]) (sp_same (by kernel_rfl) hl hs hS (show (.pointer (some ⟨b5, 0, none⟩) : Value) = _ from rfl)) trivial
              refine SSteps.cons (fun a w' vs σ hS hl hs hk => ?_) ?_
              · have e112 : a.tmps.getD 112 undef = (.pointer (some ⟨b5, 0, none⟩) : Value) := (sk_val hk 4 (by kernel_rfl) rfl rfl).trans ((hk.1 4 (by kernel_rfl)).1)
                have f112 := gd e112
                have hx := (hS.box (sg (hs 3 (by decide)))).cell
                exact ro_pure (v := .int .i64 ↑top) (wanted_none rfl) (by simp [execOp, Act.eval, e112, f112, go_sem, hx]) (sp_same (by kernel_rfl) hl hs hS (show (.int .i64 ↑top : Value) = _ from rfl)) trivial
              refine SSteps.cons (fun a w' vs σ hS hl hs hk => ?_) ?_
              · have e17 : a.tmps.getD 17 undef = (.int .i64 ↑d : Value) := (sk_old hk 17 (by kernel_rfl)).trans rfl
                have f17 := gd e17
                exact ro_pure (v := .int .i64 ↑d) (wanted_none rfl) (by simp [execOp, Act.eval, e17, f17, go_sem]) (sp_same (by kernel_rfl) hl hs hS (show (.int .i64 ↑d : Value) = _ from rfl)) trivial
              refine SSteps.cons (fun a w' vs σ hS hl hs hk => ?_) ?_
              · have e113 : a.tmps.getD 113 undef = (.int .i64 ↑top : Value) := (sk_val hk 5 (by kernel_rfl) rfl rfl).trans ((hk.1 5 (by kernel_rfl)).1)
                have f113 := gd e113
                have e114 : a.tmps.getD 114 undef = (.int .i64 ↑d : Value) := (sk_val hk 6 (by kernel_rfl) rfl rfl).trans ((hk.1 6 (by kernel_rfl)).1)
                have f114 := gd e114
                exact ro_pure (v := .int .i64 (↑top + ↑d)) (wanted_none rfl) (by simp [execOp, Act.eval, e113, f113, e114, f114, go_sem, HWD.out]) (sp_same (by kernel_rfl) hl hs hS (show (.int .i64 (↑top + ↑d) : Value) = _ from rfl)) trivial
              refine SSteps.cons (fun a w' vs σ hS hl hs hk => ?_) ?_
              · have e16 : a.tmps.getD 16 undef = (.slice (some ⟨ga, 0, none⟩) k ca : Value) := (sk_old hk 16 (by kernel_rfl)).trans rfl
                have f16 := gd e16
                exact ro_pure (v := .slice (some ⟨ga, 0, none⟩) k ca) (wanted_none rfl) (by simp [execOp, Act.eval, e16, f16, go_sem]) (sp_same (by kernel_rfl) hl hs hS (show (.slice (some ⟨ga, 0, none⟩) k ca : Value) = _ from rfl)) trivial
              refine SSteps.cons (fun a w' vs σ hS hl hs hk => ?_) ?_
              · have e17 : a.tmps.getD 17 undef = (.int .i64 ↑d : Value) := (sk_old hk 17 (by kernel_rfl)).trans rfl
                have f17 := gd e17
                exact ro_pure (v := .int .i64 ↑d) (wanted_none rfl) (by simp [execOp, Act.eval, e17, f17, go_sem]) (sp_same (by kernel_rfl) hl hs hS (show (.int .i64 ↑d : Value) = _ from rfl)) trivial
              refine SSteps.cons (fun a w' vs σ hS hl hs hk => ?_) ?_
              · have e116 : a.tmps.getD 116 undef = (.slice (some ⟨ga, 0, none⟩) k ca : Value) := (sk_val hk 8 (by kernel_rfl) rfl rfl).trans ((hk.1 8 (by kernel_rfl)).1)
                have f116 := gd e116
                have e117 : a.tmps.getD 117 undef = (.int .i64 ↑d : Value) := (sk_val hk 9 (by kernel_rfl) rfl rfl).trans ((hk.1 9 (by kernel_rfl)).1)
                have f117 := gd e117
                exact ro_pure (v := .pointer (some ⟨ga, d * 2, none⟩)) (wanted_none rfl) (by simp [execOp, Act.eval, e116, f116, e117, f117, go_sem, hdz, hdz2]) (sp_same (by kernel_rfl) hl hs hS (show (.pointer (some ⟨ga, d * 2, none⟩) : Value) = _ from rfl)) trivial
              refine SSteps.cons (fun a w' vs σ hS hl hs hk => ?_) ?_
              · have e118 : a.tmps.getD 118 undef = (.pointer (some ⟨ga, d * 2, none⟩) : Value) := (sk_val hk 10 (by kernel_rfl) rfl rfl).trans ((hk.1 10 (by kernel_rfl)).1)
                have f118 := gd e118
                have h1 : σ[1]? = some (.heads (.slice (some ⟨ga, 0, none⟩) k ca) (hdP All)) := hs 1 (by decide)
                obtain ⟨A8, c8, e8, -, -, -, hg8⟩ := hS.headsForm (sg h1)
                simp only [Value.slice.injEq] at e8
                obtain ⟨rfl, -, rfl⟩ := e8
                obtain ⟨g8, e9, hz, hcs, hf⟩ := hg8 (by rw [hdP_length]; omega)
                cases e9
                obtain ⟨hx, hx'⟩ := hcs d (All[d].1, All[d].2.2) (by simp [hdP, hdA])
                exact ro_pure (v := .agg #[All[d].1, .bool All[d].2.2]) (wanted_none rfl) (by simp [execOp, Act.eval, e118, f118, hx, hx', go_sem]) (sp_same (by kernel_rfl) hl hs hS rfl) trivial
              refine SSteps.cons (fun a w' vs σ hS hl hs hk => ?_) ?_
              · have e111 : a.tmps.getD 111 undef = (.slice (some ⟨gr, 0, none⟩) L.length c : Value) := (sk_val hk 3 (by kernel_rfl) rfl rfl).trans ((hk.1 3 (by kernel_rfl)).1)
                have f111 := gd e111
                have e115 : a.tmps.getD 115 undef = (.int .i64 (↑top + ↑d) : Value) := (sk_val hk 7 (by kernel_rfl) rfl rfl).trans ((hk.1 7 (by kernel_rfl)).1)
                have f115 := gd e115
                exact ro_pure (v := .pointer (some ⟨gr, (top + d) * 2, none⟩)) (wanted_none rfl) (by simp [execOp, Act.eval, e111, f111, e115, f115, go_sem, htz, htz2, htn]) (sp_same (by kernel_rfl) hl hs hS (show (.pointer (some ⟨gr, (top + d) * 2, none⟩) : Value) = _ from rfl)) trivial
              refine SSteps.cons (fun a w' vs σ hS hl hs hk => ?_) ?_
              · have e120 : a.tmps.getD 120 undef = (.pointer (some ⟨gr, (top + d) * 2, none⟩) : Value) := (sk_val hk 12 (by kernel_rfl) rfl rfl).trans ((hk.1 12 (by kernel_rfl)).1)
                have f120 := gd e120
                have e119 : a.tmps.getD 119 undef = (.agg #[All[d].1, .bool All[d].2.2] : Value) := (sk_val hk 11 (by kernel_rfl) rfl rfl).trans ((hk.1 11 (by kernel_rfl)).1)
                have f119 := gd e119
                have h1 : σ[0]? = some (.heads (.slice (some ⟨gr, 0, none⟩) L.length c) (hdP T1 ++ (hdP (All.take d) ++ hdP (Rr.drop d)))) := hs 0 (by decide)
                obtain ⟨A8, c8, e8, -, -, -, hg8⟩ := hS.headsForm (sg h1)
                simp only [Value.slice.injEq] at e8
                obtain ⟨rfl, -, rfl⟩ := e8
                have hHl := HHL.out
                obtain ⟨g8, e9, hz, hcs, hf⟩ := hg8 (by omega)
                cases e9
                obtain ⟨x8, hx8⟩ := get_of (show top + d < (hdP T1 ++ (hdP (All.take d) ++ hdP (Rr.drop d))).length by omega)
                obtain ⟨hx, hx'⟩ := hcs (top + d) x8 hx8
                exact rstep_store (w2 := (w'.setCell ⟨gr, (top + d) * 2, none⟩ All[d].1).setCell ⟨gr, (top + d) * 2 + 1, none⟩ (.bool All[d].2.2)) (wanted_none rfl) rfl (by simp [execOp, Act.eval, e120, f120, e119, f119, hsl, hx, hx', hf, hz, go_sem]) (sp_set 0 (.heads (.slice (some ⟨gr, 0, none⟩) L.length c) (List.set (hdP T1 ++ (hdP (All.take d) ++ hdP (Rr.drop d))) (top + d) (All[d].1, All[d].2.2))) (by kernel_rfl) (by simp) (by decide) hl hs (by rfl) (hS.storeHead (sg h1)) trivial) trivial
              exact SSteps.nil
            · intro vs w' hS hv
              have q0 := (show vs 0 = (.pointer (some ⟨x, 0, none⟩) : Value) from hv 0 (by decide))
              have q1 := (show vs 1 = (.pointer (some ⟨x, 0, none⟩) : Value) from hv 1 (by decide))
              have q2 := (show vs 2 = (.pointer (some ⟨x, 1, none⟩) : Value) from hv 2 (by decide))
              have q3 := (show vs 3 = (.slice (some ⟨gr, 0, none⟩) L.length c : Value) from hv 3 (by decide))
              have q4 := (show vs 4 = (.pointer (some ⟨b5, 0, none⟩) : Value) from hv 4 (by decide))
              have q5 := (show vs 5 = (.int .i64 ↑top : Value) from hv 5 (by decide))
              have q6 := (show vs 6 = (.int .i64 ↑d : Value) from hv 6 (by decide))
              have q7 := (show vs 7 = (.int .i64 (↑top + ↑d) : Value) from hv 7 (by decide))
              have q8 := (show vs 8 = (.slice (some ⟨ga, 0, none⟩) k ca : Value) from hv 8 (by decide))
              have q9 := (show vs 9 = (.int .i64 ↑d : Value) from hv 9 (by decide))
              have q10 := (show vs 10 = (.pointer (some ⟨ga, d * 2, none⟩) : Value) from hv 10 (by decide))
              have q11 := (show vs 11 = (.agg #[All[d].1, .bool All[d].2.2] : Value) from hv 11 (by decide))
              have q12 := (show vs 12 = (.pointer (some ⟨gr, (top + d) * 2, none⟩) : Value) from hv 12 (by decide))
              have S2 := Lib.hid hS
              simp only [putL, Act.put, Nat.zero_add, Nat.reduceAdd, List.setIfInBounds_toArray, List.set_cons_succ, List.set_cons_zero, q0, q1, q2, q3, q4, q5, q6, q7, q8, q9, q10, q11, q12]
              clear hS hv q0 q1 q2 q3 q4 q5 q6 q7 q8 q9 q10 q11 q12
              have S9 := S2.out
              rw [hdP_fill All[d].1 All[d].2.1 All[d].2.2 HT1.out (by rw [List.length_take]; omega) hdR, show All.take d ++ [(All[d].1, All[d].2.1, All[d].2.2)] = All.take (d + 1) from (List.take_succ_eq_append_getElem hdA).symm] at S9
              have S10 := Lib.hid S9
              clear S9 S2
              go_wp2_with fail
              go_roundw
              case rel => exact ⟨d + 1, by omega, by go_num, S10.out⟩
              case measure => simp [intOf]; omega
end
end Go.Proofs.YtghahanpmcpacaaDoor
