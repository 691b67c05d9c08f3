/-
  Part 5 of the texts on which the proofs of this seat stand: each part says ahead of it what it shows.
-/
import Derived.Test.YtghahanpmcpacaaDoorR4

/-
  Roll of the reference's grid, downwards.
-/
set_option linter.unusedSimpArgs false
set_option linter.unusedVariables false
namespace Go.Proofs.YtghahanpmcpacaaDoor
open Go.RowKit

section
variable {w0 w : World} {os : List Ob} {v : Value} {hp : List (Value × Bool)}
/-- append(v, s...) onto heads, where s is empty. -/
theorem run_appE (hS : Objs w0 w os) {k j : Nat} (hk : os[k]? = some (.heads v hp)) {A : Option Addr} {c : Nat} {hq : List (Value × Bool)} (hj : os[j]? = some (.heads (.slice A 0 c) hq)) (hlen : hp.length ≤ 1000000) (ty : TypeId) :
    ∃ v' w', (Builtin.append_ #[35, 35] ty #[v, .slice A 0 c]).run Tryd.prog w = .ok v' w' ∧ Objs w0 w' (os.set k (.heads v' hp)) ∧ ∃ A' c', v' = .slice A' hp.length c' := by
  rcases A with _ | ad
  · obtain ⟨i, hi, hz0, hz1, hz2⟩ := info_parts line_info
    have ho := hS.headsOwn hk
    have hoj := hS.headsOwn hj
    obtain rfl : c = 0 := by
      rcases hoj.2 with ⟨h1, -⟩ | ⟨g, cap, cur, h1, -⟩
      · cases h1; rfl
      · cases h1
    obtain ⟨A', c', e, -⟩ := own_form ho
    exact ⟨v, w, run_append_owned_none (P := Tryd.prog) (w := w) 0 35 ty 79 i 2 Tryd.underlying35 hi v _ _ ho, by rwa [set_self hk], A', c', e⟩
  · obtain ⟨v', w', h1, h2, A', c', h3⟩ := run_appH hS hk (ad := ad) (m := 0) (c := c) (ds := []) rfl (Nat.zero_le _) (fun i x hx => by simp [flat2] at hx) (fun x hx => by simp at hx) (by simpa using hlen) ty
    rw [List.append_nil] at h2
    exact ⟨v', w', h1, h2, A', c', by simpa using h3⟩
end
section
variable {w0 w : World} {os : List Ob} {x cols : Nat} {L : List Ln}
set_option maxRecDepth 100000 in
set_option maxHeartbeats 8000000 in
theorem r14Roll_neg {top bot k : Nat} {n : Int} (q : Pen) (hS : Objs w0 w (.grid x 63 cols L :: os)) (hcm : cols ≤ 1000) (hL : L.length ≤ 1000) (hmill : ∀ l ∈ L, l.1.length ≤ 1000000) (htb : top ≤ bot) (hbl : bot < L.length) (hn : n < 0) (hk : (-((bot + 1 - top : Nat) : Int) < n ∧ n = -(k : Int)) ∨ ((n ≤ -((bot + 1 - top : Nat) : Int) ∧ -9223372036854775808 ≤ n) ∧ k = bot + 1 - top)) :
    Calls Tryd.prog 62 #[.pointer (some ⟨x, 0, none⟩), .agg #[.int .i64 top, .int .i64 bot], .int .i64 n, .agg (pv q)] w fun e w' => ∃ A m c, e = .returned (.slice A m c) ∧ Objs w0 w' (.lines (.slice A m c) (rollGone top bot n L) :: .grid x 63 cols (rollL top bot n q cols L) :: os) := by
  have S := Lib.hid hS
  have HMILL := Lib.hid hmill
  obtain ⟨many, hmany⟩ : ∃ many, many = bot + 1 - top := ⟨_, rfl⟩
  have HMANY := Lib.hid hmany
  have hb0 := beq_no (show ¬ n = 0 by omega)
  have HK := Lib.hid hk
  have HMI := Lib.hid (show (bot : Int) - (top : Int) + 1 = (many : Int) by omega)
  have HBI := Lib.hid (show bot + 1 - top = many from hmany.symm)
  have hmb : many ≤ 1000 := by omega
  have hm1 : 0 < many := by omega
  have htm : top + many ≤ L.length := by omega
  have hkm : k ≤ many := by omega
  have hk0 : 0 < k := by omega
  rw [← hmany] at hk
  have HKK := Lib.hid (rollK_is (n := n) (k := k) hmany (by rcases hk with ⟨a1, a2⟩ | ⟨⟨a1, a3⟩, a2⟩ <;> omega))
  clear hS hmany hmill
  go_enter Tryd.func62, Tryd.ntmps62
  go_upto_region 1 with (fail)
  refine at_objsC S.out.alloc2 (fun W hW => ?_)
  generalize w.heap.size + 1 = b7 at hW ⊢
  generalize w.heap.size = b5 at hW ⊢
  obtain ⟨v, hS1⟩ := hW.openGrid (k := 2) rfl
  obtain ⟨A, c, rfl, hcmx, hrl⟩ := hS1.linesRd (k := 0) rfl
  have hlc : L.length ≤ c := hrl.1
  obtain ⟨gr, off0, rfl, -⟩ : ∃ b off, A = some ⟨b, off, none⟩ ∧ True := by obtain ⟨b, off, e, -⟩ := hrl.2.2 (by omega); exact ⟨b, off, e, trivial⟩
  obtain rfl : off0 = 0 := by
    obtain ⟨F, bs, hF, -⟩ := hS1.get (k := 0) rfl
    obtain ⟨A2, c2, e2, -, -, -, h4⟩ := hF.form
    simp only [Value.slice.injEq, true_and] at e2
    obtain ⟨rfl, rfl⟩ := e2
    obtain ⟨g, e3, -⟩ := h4 (by omega)
    cases e3; rfl
  have S1 := Lib.hid (ord_a (show Objs w0 W (.lines (.slice none 0 0) [] :: .lines (.slice (some ⟨gr, 0, none⟩) L.length c) L :: .box b7 31 (pv q) :: .box b5 23 #[.int .i64 top, .int .i64 bot] :: .box x 63 #[.int .i64 cols, .slice (some ⟨gr, 0, none⟩) L.length c] :: os) from hS1.nilLines))
  obtain ⟨hx5, hf5, hz5⟩ := (hS1.box (k := 2) rfl).facts
  have hctop : many ≤ c - top := by omega
  clear hW hS1 hrl
  rcases hk with ⟨h1, h2⟩ | ⟨⟨h1, h3⟩, h2⟩
  · subst h2
    have hmax : max (-(k : Int)) (k : Int) = (k : Int) := by omega
    have hngt : ¬ (0 : Int) < -(k : Int) := by omega
    have hnlt : -(k : Int) < 0 := by omega
    have hkl : k < many := by omega
    have HWK := Lib.hid (show IntKind.i64.wrap ((many : Int) - (k : Int)) = (many : Int) - (k : Int) from IntWalk.i64_in _ (by omega))
    have HKQ := Lib.hid (show many - (many - k) = k from Nat.sub_sub_self hkm)
    have hmi := HMI.out
    go_wp2_with fail
    go_loopw [11, 12] (fun u11 vi wr => ∃ (d : Nat) (vf : Value), d ≤ k ∧ vf = u11 ∧ vi = .int .i64 d ∧ Objs w0 wr (.lines vf (rollFresh d cols q) :: .box b7 31 (pv q) :: .box x 63 #[.int .i64 cols, .slice (some ⟨gr, 0, none⟩) L.length c] :: .lines (.slice (some ⟨gr, 0, none⟩) L.length c) L :: .box b5 23 #[.int .i64 top, .int .i64 bot] :: os)) (fun _ vi _ => k - (intOf vi).toNat)
    case atStart => exact ⟨0, _, by omega, rfl, rfl, S1.out⟩
    case round =>
      obtain ⟨d, vf, hdk, rfl, rfl, hS⟩ := hrel
      have S2 := Lib.hid hS
      clear hS S1
      by_cases hlt : d < k
      · have SZ := Lib.hid S2.out.pad.pad
        clear S2
        go_upto_region 11 with (fail)
        refine wp_region_stage (w0 := w0) (os := (.lines (.slice (some ⟨gr, 0, none⟩) L.length c) L :: .box b5 23 #[.int .i64 ↑top, .int .i64 ↑bot] :: os)) (by kernel_rfl) (by kernel_rfl) (by kernel_rfl) [(0, 6, [6], fun vs => .cells (lineV (vs 6)) (List.replicate cols (blank q))), (1, 7, [6, 7], fun vs => .box (blkOf (vs 7)) 79 #[lineV (vs 6), .bool false]), (2, 8, [8], fun vs => .lines (vs 8) (rollFresh (d + 1) cols q)), (0, 8, [], fun vs => .none), (2, 9, [9], fun vs => .lines (vs 9) (rollFresh (d + 1) cols q))] [[], [], [], [], [4], [3], [0], [1], [0, 1, 2], [2]] [.none, .none, .lines vf (rollFresh d cols q), .box b7 31 (pv q), .box x 63 #[.int .i64 ↑cols, .slice (some ⟨gr, 0, none⟩) L.length c]] (fun i u => match i with | 0 => u = (vf : Value) | 1 => u = (.pointer (some ⟨x, 0, none⟩) : Value) | 2 => u = (.pointer (some ⟨x, 0, none⟩) : Value) | 3 => u = (.pointer (some ⟨x, 0, none⟩) : Value) | 4 => u = (.int .i64 ↑cols : Value) | 5 => u = (.agg (pv q) : Value) | 6 => ∃ y, u = .agg #[y, .bool false] | 7 => ∃ g, u = .slice (some ⟨g, 0, none⟩) 1 1 | 8 => ∃ A m c, u = .slice A m c | 9 => ∃ A m c, u = .slice A m c | _ => True) (fun vs => [.none, .box (blkOf (vs 7)) 79 #[lineV (vs 6), .bool false], .lines (vs 9) (rollFresh (d + 1) cols q), .box b7 31 (pv q), .box x 63 #[.int .i64 ↑cols, .slice (some ⟨gr, 0, none⟩) L.length c]]) (by kernel_rfl) (fun vs => by rfl) SZ.out ?_ ?_
        · refine SSteps.cons (fun a w' vs σ hS hl hs hk => ?_) ?_
          · have e11 : a.tmps.getD 11 undef = (vf : Value) := (sk_later hk 9 (by kernel_rfl) rfl rfl).trans rfl
            have f11 := gd e11
            exact ro_pure (v := vf) (wanted_none rfl) (by simp [execOp, Act.eval, e11, f11, go_sem]) (sp_same (by kernel_rfl) hl hs hS (show (vf : Value) = _ from rfl)) trivial
          refine SSteps.cons (fun a w' vs σ hS hl hs hk => ?_) ?_
          · have e0 : a.tmps.getD 0 undef = (.pointer (some ⟨x, 0, none⟩) : Value) := (sk_old hk 0 (by kernel_rfl)).trans rfl
            have f0 := gd e0
            exact ro_pure (v := .pointer (some ⟨x, 0, none⟩)) (wanted_none rfl) (by simp [execOp, Act.eval, e0, f0, go_sem]) (sp_same (by kernel_rfl) hl hs hS (show (.pointer (some ⟨x, 0, none⟩) : Value) = _ from rfl)) trivial
          refine SSteps.cons (fun a w' vs σ hS hl hs hk => ?_) ?_
          · have e46 : a.tmps.getD 46 undef = (.pointer (some ⟨x, 0, none⟩) : Value) := (sk_val hk 1 (by kernel_rfl) rfl rfl).trans ((hk.1 1 (by kernel_rfl)).1)
            have f46 := gd e46
            exact ro_pure (v := .pointer (some ⟨x, 0, none⟩)) (wanted_none rfl) (by simp [execOp, Act.eval, e46, f46, go_sem]) (sp_same (by kernel_rfl) hl hs hS (show (.pointer (some ⟨x, 0, none⟩) : Value) = _ from rfl)) trivial
          refine SSteps.cons (fun a w' vs σ hS hl hs hk => ?_) ?_
          · have e47 : a.tmps.getD 47 undef = (.pointer (some ⟨x, 0, none⟩) : Value) := (sk_val hk 2 (by kernel_rfl) rfl rfl).trans ((hk.1 2 (by kernel_rfl)).1)
            have f47 := gd e47
            exact ro_pure (v := .pointer (some ⟨x, 0, none⟩)) (wanted_none rfl) (by simp [execOp, Act.eval, e47, f47, go_sem]) (sp_same (by kernel_rfl) hl hs hS (show (.pointer (some ⟨x, 0, none⟩) : Value) = _ from rfl)) trivial
          refine SSteps.cons (fun a w' vs σ hS hl hs hk => ?_) ?_
          · have e48 : a.tmps.getD 48 undef = (.pointer (some ⟨x, 0, none⟩) : Value) := (sk_val hk 3 (by kernel_rfl) rfl rfl).trans ((hk.1 3 (by kernel_rfl)).1)
            have f48 := gd e48
            have hx := (hS.box (sg (hs 4 (by decide)))).cell
            exact ro_pure (v := .int .i64 ↑cols) (wanted_none rfl) (by simp [execOp, Act.eval, e48, f48, go_sem, hx]) (sp_same (by kernel_rfl) hl hs hS (show (.int .i64 ↑cols : Value) = _ from rfl)) trivial
          refine SSteps.cons (fun a w' vs σ hS hl hs hk => ?_) ?_
          · have e7 : a.tmps.getD 7 undef = (.pointer (some ⟨b7, 0, none⟩) : Value) := (sk_old hk 7 (by kernel_rfl)).trans rfl
            have f7 := gd e7
            have hx := (hS.box (sg (hs 3 (by decide)))).penAt
            exact ro_pure (v := .agg (pv q)) (wanted_none rfl) (by simp [execOp, Act.eval, e7, f7, go_sem, hx]) (sp_same (by kernel_rfl) hl hs hS (show (.agg (pv q) : Value) = _ from rfl)) trivial
          refine SSteps.cons (fun a w' vs σ hS hl hs hk => ?_) ?_
          · have e49 : a.tmps.getD 49 undef = (.int .i64 ↑cols : Value) := (sk_val hk 4 (by kernel_rfl) rfl rfl).trans ((hk.1 4 (by kernel_rfl)).1)
            have f49 := gd e49
            have e50 : a.tmps.getD 50 undef = (.agg (pv q) : Value) := (sk_val hk 5 (by kernel_rfl) rfl rfl).trans ((hk.1 5 (by kernel_rfl)).1)
            have f50 := gd e50
            have h0 : σ[0]? = some .none := hs 0 (by decide)
            exact ro_call (f := 78) (wanted_none rfl) rfl (by simp only [List.map_toArray, List.map_cons, List.map_nil, Act.eval, e49, e50] <;> rfl) (fun _ _ => by kernel_rfl) ((r14Blanks_any cols (by omega) q w0 w' _ hS).mono fun e w2 ⟨y, h1, h2⟩ => ⟨_, h1, sp_set 0 (.cells y (List.replicate cols (blank q))) (by kernel_rfl) (by simp) (by decide) hl hs (by rfl) (h2.place (sg h0)) ⟨y, rfl⟩, trivial⟩)
          refine SSteps.cons (fun a w' vs σ hS hl hs hk => ?_) ?_
          · have e51 : a.tmps.getD 51 undef = vs 6 := sk_val hk 6 (by kernel_rfl) rfl rfl
            have p51 : (fun u : Value => ∃ y, u = .agg #[y, .bool false]) (vs 6) := (hk.1 6 (by kernel_rfl)).1
            have f51 := gd e51
            obtain ⟨y, hx⟩ := p51
            have e9 := e51.trans hx
            have f9 := gd e9
            have h1 : σ[1]? = some .none := hs 1 (by decide)
            exact rs_run (wanted_none rfl) (exec_bsl rfl (by simp [Act.eval, e9, f9]) (run_bsl y false w')) (sp_set 1 (.box w'.heap.size 79 #[y, .bool false]) (by kernel_rfl) (by simp) (by decide) hl hs (by show Ob.box (blkOf (.slice (some ⟨w'.heap.size, 0, none⟩) 1 1)) 79 #[lineV (vs 6), .bool false] = _; rw [hx]; rfl) (hS.alloc1.place (sg h1)) ⟨_, rfl⟩)
          refine SSteps.cons (fun a w' vs σ hS hl hs hk => ?_) ?_
          · have e45 : a.tmps.getD 45 undef = (vf : Value) := (sk_val hk 0 (by kernel_rfl) rfl rfl).trans ((hk.1 0 (by kernel_rfl)).1)
            have f45 := gd e45
            have e52 : a.tmps.getD 52 undef = vs 7 := sk_val hk 7 (by kernel_rfl) rfl rfl
            have p52 : (fun u : Value => ∃ g, u = .slice (some ⟨g, 0, none⟩) 1 1) (vs 7) := (hk.1 7 (by kernel_rfl)).1
            have f52 := gd e52
            have h2 : σ[2]? = some (.lines vf (rollFresh d cols q)) := hs 2 (by decide)
            have h0 : σ[0]? = some (.cells (lineV (vs 6)) (List.replicate cols (blank q))) := hs 0 (by decide)
            have h1 : σ[1]? = some (.box (blkOf (vs 7)) 79 #[lineV (vs 6), .bool false]) := hs 1 (by decide)
            obtain ⟨g8, hg8⟩ := p52
            rw [hg8, show blkOf (.slice (some ⟨g8, 0, none⟩) 1 1) = g8 from rfl] at h1
            obtain ⟨v9, w9, hr, hS2, A9, c9, hv9⟩ := run_appL hS (k := 2) (j := 0) (ad := ⟨g8, 0, none⟩) (c := 1) (s := false) (sg h2) (sg h0) (by decide) (by rw [(hS.box (sg h1)).cell]; rfl) (by rw [add_at, (hS.box (sg h1)).cell]; rfl) (by simp [rollFresh]; omega) 35
            rw [show rollFresh d cols q ++ [((List.replicate cols (blank q)), false)] = (rollFresh (d + 1) cols q) from (List.replicate_succ' ..).symm] at hS2
            exact rs_run (wanted_none rfl) (exec_app rfl (by simp only [Act.eval]; exact e45) (by simp only [Act.eval]; exact e52.trans hg8) hr) (sp_set2 2 0 (.lines v9 (rollFresh (d + 1) cols q)) .none (by decide) (by kernel_rfl) (by simp) (by simp) (by decide) (by decide) hl hs (by rfl) (by rfl) hS2 ⟨A9, _, c9, hv9⟩)
          refine SSteps.cons (fun a w' vs σ hS hl hs hk => ?_) ?_
          · have e53 : a.tmps.getD 53 undef = vs 8 := sk_val hk 8 (by kernel_rfl) rfl rfl
            have p53 : (fun u : Value => ∃ A m c, u = .slice A m c) (vs 8) := (hk.1 8 (by kernel_rfl)).1
            have f53 := gd e53
            obtain ⟨A9, n9, c9, q9⟩ := p53
            have e9 := e53.trans q9
            have f9 := gd e9
            have h2 : σ[2]? = some (.lines (vs 8) (rollFresh (d + 1) cols q)) := hs 2 (by decide)
            rw [q9] at h2
            have hSS : Objs w0 w' ((σ ++ (.lines (.slice (some ⟨gr, 0, none⟩) L.length c) L :: .box b5 23 #[.int .i64 ↑top, .int .i64 ↑bot] :: os)).set 2 (.lines (.slice A9 n9 c9) (rollFresh (d + 1) cols q))) := by rw [set_self (sg h2)]; exact hS
            exact rs_run (v' := .slice A9 n9 c9) (w' := w') (wanted_none rfl) (by simp [execOp, Act.eval, e9, f9, go_sem]) (sp_set 2 (.lines (.slice A9 n9 c9) (rollFresh (d + 1) cols q)) (by kernel_rfl) (by simp) (by decide) hl hs (by rfl) hSS ⟨A9, n9, c9, rfl⟩)
          exact SSteps.nil
        · intro vs w' hS hv
          have q0 := (show vs 0 = (vf : Value) from hv 0 (by decide))
          have q1 := (show vs 1 = (.pointer (some ⟨x, 0, none⟩) : Value) from hv 1 (by decide))
          have q2 := (show vs 2 = (.pointer (some ⟨x, 0, none⟩) : Value) from hv 2 (by decide))
          have q3 := (show vs 3 = (.pointer (some ⟨x, 0, none⟩) : Value) from hv 3 (by decide))
          have q4 := (show vs 4 = (.int .i64 ↑cols : Value) from hv 4 (by decide))
          have q5 := (show vs 5 = (.agg (pv q) : Value) from hv 5 (by decide))
          have S2 := Lib.hid hS
          simp only [putL, Act.put, Nat.zero_add, Nat.reduceAdd, List.setIfInBounds_toArray, List.set_cons_succ, List.set_cons_zero, q0, q1, q2, q3, q4, q5]
          clear hS hv q0 q1 q2 q3 q4 q5
          go_wp2_with fail
          go_roundw
          case rel => exact ⟨d + 1, vs 9, by omega, rfl, by go_num, (S2.out.del 0).del 0⟩
          case measure => simp [intOf]; omega
      obtain rfl : k = d := by omega
      have S3 := Lib.hid (ord_b S2.out)
      obtain ⟨hxx, hfx, hzx⟩ := (S3.out.box (k := 3) rfl).facts
      clear hx5 hf5 hz5
      obtain ⟨hx5, hf5, hz5⟩ := (S3.out.box (k := 4) rfl).facts
      clear S2
      go_wp2_with fail
      refine wp_region_below (by kernel_rfl) (by kernel_rfl) ?_
      repeat (go_big_quiet_step (fail))
      refine wpQuiet_nil ?_
      intro w2 hb2
      have SZ := Lib.hid (S3.out.bel hb2).pad.pad
      clear hxx hfx hzx hx5 hf5 hz5 S3 hb2
      simp only [HBI.out]
      have hkz : (0 : Int) ≤ (many : Int) - (k : Int) := by omega
      have hkz2 : (many : Int) - (k : Int) ≤ (many : Int) := by omega
      have hkz3 : many - k ≤ c - top := by omega
      have hkz5 : ¬ c - top = many - k := by omega
      have hkz7 : ¬ many < k := by omega
      have hkz8 : ¬ ((c - top : Nat) : Int) < (many : Int) - (k : Int) := by omega
      have hkz6 : ((many : Int) - (k : Int)).toNat = many - k := by omega
      go_wp2_with fail
      refine wp_region_stage (w0 := w0) (os := (.lines vf (rollFresh k cols q) :: .box b7 31 (pv q) :: .box x 63 #[.int .i64 ↑cols, .slice (some ⟨gr, 0, none⟩) L.length c] :: .box b5 23 #[.int .i64 ↑top, .int .i64 ↑bot] :: os)) (by kernel_rfl) (by kernel_rfl) (by kernel_rfl) [(0, 5, [5], fun vs => .lines (vs 5) ((L.drop (top + (many - k))).take k)), (1, 11, [11], fun vs => .lines (vs 11) ((L.drop top).take (many - k))), (0, 12, [12], fun vs => .lines (vs 12) ((L.drop (top + (many - k))).take k)), (1, 13, [13], fun vs => .lines (vs 13) ((L.drop top).take (many - k)))] [[], [], [], [], [], [0, 2], [], [], [], [], [], [1, 2], [0], [1]] [.none, .none, .lines (.slice (some ⟨gr, 0, none⟩) L.length c) L] (fun i u => match i with | 0 => u = (.slice (some ⟨gr, top * 2, none⟩) many (c - top) : Value) | 1 => u = (.int .i64 ↑many : Value) | 2 => u = (.int .i64 ↑k : Value) | 3 => u = (.int .i64 (↑many - ↑k) : Value) | 4 => u = (.slice (some ⟨gr, top * 2 + (many - k) * 2, none⟩) k (c - top - (many - k)) : Value) | 5 => ∃ A m c, u = .slice A m c | 6 => u = (.slice (some ⟨gr, top * 2, none⟩) many (c - top) : Value) | 7 => u = (.int .i64 ↑many : Value) | 8 => u = (.int .i64 ↑k : Value) | 9 => u = (.int .i64 (↑many - ↑k) : Value) | 10 => u = (.slice (some ⟨gr, top * 2, none⟩) (many - k) (c - top) : Value) | 11 => ∃ A m c, u = .slice A m c | 12 => ∃ A m c, u = .slice A m c | 13 => ∃ A m c, u = .slice A m c | _ => True) (fun vs => [.lines (vs 12) ((L.drop (top + (many - k))).take k), .lines (vs 13) ((L.drop top).take (many - k)), .lines (.slice (some ⟨gr, 0, none⟩) L.length c) L]) (by kernel_rfl) (fun vs => by rfl) SZ.out ?_ ?_
      · refine SSteps.cons (fun a w' vs σ hS hl hs hk => ?_) ?_
        · have e13 : a.tmps.getD 13 undef = (.slice (some ⟨gr, top * 2, none⟩) many (c - top) : Value) := (sk_old hk 13 (by kernel_rfl)).trans rfl
          have f13 := gd e13
          exact ro_pure (v := .slice (some ⟨gr, top * 2, none⟩) many (c - top)) (wanted_none rfl) (by simp [execOp, Act.eval, e13, f13, go_sem]) (sp_same (by kernel_rfl) hl hs hS (show (.slice (some ⟨gr, top * 2, none⟩) many (c - top) : Value) = _ from rfl)) trivial
        refine SSteps.cons (fun a w' vs σ hS hl hs hk => ?_) ?_
        · have e9 : a.tmps.getD 9 undef = (.int .i64 ↑many : Value) := (sk_old hk 9 (by kernel_rfl)).trans rfl
          have f9 := gd e9
          exact ro_pure (v := .int .i64 ↑many) (wanted_none rfl) (by simp [execOp, Act.eval, e9, f9, go_sem]) (sp_same (by kernel_rfl) hl hs hS (show (.int .i64 ↑many : Value) = _ from rfl)) trivial
        refine SSteps.cons (fun a w' vs σ hS hl hs hk => ?_) ?_
        · have e10 : a.tmps.getD 10 undef = (.int .i64 ↑k : Value) := (sk_old hk 10 (by kernel_rfl)).trans rfl
          have f10 := gd e10
          exact ro_pure (v := .int .i64 ↑k) (wanted_none rfl) (by simp [execOp, Act.eval, e10, f10, go_sem]) (sp_same (by kernel_rfl) hl hs hS (show (.int .i64 ↑k : Value) = _ from rfl)) trivial
        refine SSteps.cons (fun a w' vs σ hS hl hs hk => ?_) ?_
        · have e75 : a.tmps.getD 75 undef = (.int .i64 ↑many : Value) := (sk_val hk 1 (by kernel_rfl) rfl rfl).trans ((hk.1 1 (by kernel_rfl)).1)
          have f75 := gd e75
          have e76 : a.tmps.getD 76 undef = (.int .i64 ↑k : Value) := (sk_val hk 2 (by kernel_rfl) rfl rfl).trans ((hk.1 2 (by kernel_rfl)).1)
          have f76 := gd e76
          exact ro_pure (v := .int .i64 (↑many - ↑k)) (wanted_none rfl) (by simp [execOp, Act.eval, e75, f75, e76, f76, go_sem, HWK.out]) (sp_same (by kernel_rfl) hl hs hS (show (.int .i64 (↑many - ↑k) : Value) = _ from rfl)) trivial
        refine SSteps.cons (fun a w' vs σ hS hl hs hk => ?_) ?_
        · have e74 : a.tmps.getD 74 undef = (.slice (some ⟨gr, top * 2, none⟩) many (c - top) : Value) := (sk_val hk 0 (by kernel_rfl) rfl rfl).trans ((hk.1 0 (by kernel_rfl)).1)
          have f74 := gd e74
          have e77 : a.tmps.getD 77 undef = (.int .i64 (↑many - ↑k) : Value) := (sk_val hk 3 (by kernel_rfl) rfl rfl).trans ((hk.1 3 (by kernel_rfl)).1)
          have f77 := gd e77
          exact ro_pure (v := .slice (some ⟨gr, top * 2 + (many - k) * 2, none⟩) k (c - top - (many - k))) (wanted_none rfl) (by simp [execOp, Act.eval, e74, f74, e77, f77, go_sem, hkz, hkz2, hkz3, hkz5, hkz6, hkz7, hkz8, hkm, HWK.out, HKQ.out]) (sp_same (by kernel_rfl) hl hs hS (show (.slice (some ⟨gr, top * 2 + (many - k) * 2, none⟩) k (c - top - (many - k)) : Value) = _ from rfl)) trivial
        refine SSteps.cons (fun a w' vs σ hS hl hs hk => ?_) ?_
        · have e78 : a.tmps.getD 78 undef = (.slice (some ⟨gr, top * 2 + (many - k) * 2, none⟩) k (c - top - (many - k)) : Value) := (sk_val hk 4 (by kernel_rfl) rfl rfl).trans ((hk.1 4 (by kernel_rfl)).1)
          have f78 := gd e78
          have hn : σ[0]? = some .none := hs 0 (by decide)
          have h2 : σ[2]? = some (.lines (.slice (some ⟨gr, 0, none⟩) L.length c) L) := hs 2 (by decide)
          have hrl := (hS.linesRd' (sg h2)).2.2
          exact ro_call (f := 85) (wanted_none rfl) rfl (by simp only [List.map_toArray, List.map_cons, List.map_nil, Act.eval, e78] <;> rfl) (fun _ _ => by kernel_rfl) ((copies_at (L := ((L.drop (top + (many - k))).take k)) (by simp; omega) (hrl.part1 (by omega) (by omega)) (by simp; omega) (fun l hl => HMILL.out l (List.mem_of_mem_drop (List.mem_of_mem_take hl)))).mono fun e w2 ⟨y, h1, h2⟩ => ⟨_, h1, sp_set 0 (.lines y ((L.drop (top + (many - k))).take k)) (by kernel_rfl) (by simp) (by decide) hl hs (by rfl) ((hS.nest h2).place (sg hn)) (by obtain ⟨A, c, e, -⟩ := h2.linesRd (k := 0) rfl; exact ⟨A, _, c, e⟩), trivial⟩)
        refine SSteps.cons (fun a w' vs σ hS hl hs hk => ?_) ?_
        · have e13 : a.tmps.getD 13 undef = (.slice (some ⟨gr, top * 2, none⟩) many (c - top) : Value) := (sk_old hk 13 (by kernel_rfl)).trans rfl
          have f13 := gd e13
          exact ro_pure (v := .slice (some ⟨gr, top * 2, none⟩) many (c - top)) (wanted_none rfl) (by simp [execOp, Act.eval, e13, f13, go_sem]) (sp_same (by kernel_rfl) hl hs hS (show (.slice (some ⟨gr, top * 2, none⟩) many (c - top) : Value) = _ from rfl)) trivial
        refine SSteps.cons (fun a w' vs σ hS hl hs hk => ?_) ?_
        · have e9 : a.tmps.getD 9 undef = (.int .i64 ↑many : Value) := (sk_old hk 9 (by kernel_rfl)).trans rfl
          have f9 := gd e9
          exact ro_pure (v := .int .i64 ↑many) (wanted_none rfl) (by simp [execOp, Act.eval, e9, f9, go_sem]) (sp_same (by kernel_rfl) hl hs hS (show (.int .i64 ↑many : Value) = _ from rfl)) trivial
        refine SSteps.cons (fun a w' vs σ hS hl hs hk => ?_) ?_
        · have e10 : a.tmps.getD 10 undef = (.int .i64 ↑k : Value) := (sk_old hk 10 (by kernel_rfl)).trans rfl
          have f10 := gd e10
          exact ro_pure (v := .int .i64 ↑k) (wanted_none rfl) (by simp [execOp, Act.eval, e10, f10, go_sem]) (sp_same (by kernel_rfl) hl hs hS (show (.int .i64 ↑k : Value) = _ from rfl)) trivial
        refine SSteps.cons (fun a w' vs σ hS hl hs hk => ?_) ?_
        · have e81 : a.tmps.getD 81 undef = (.int .i64 ↑many : Value) := (sk_val hk 7 (by kernel_rfl) rfl rfl).trans ((hk.1 7 (by kernel_rfl)).1)
          have f81 := gd e81
          have e82 : a.tmps.getD 82 undef = (.int .i64 ↑k : Value) := (sk_val hk 8 (by kernel_rfl) rfl rfl).trans ((hk.1 8 (by kernel_rfl)).1)
          have f82 := gd e82
          exact ro_pure (v := .int .i64 (↑many - ↑k)) (wanted_none rfl) (by simp [execOp, Act.eval, e81, f81, e82, f82, go_sem, HWK.out]) (sp_same (by kernel_rfl) hl hs hS (show (.int .i64 (↑many - ↑k) : Value) = _ from rfl)) trivial
        refine SSteps.cons (fun a w' vs σ hS hl hs hk => ?_) ?_
        · have e80 : a.tmps.getD 80 undef = (.slice (some ⟨gr, top * 2, none⟩) many (c - top) : Value) := (sk_val hk 6 (by kernel_rfl) rfl rfl).trans ((hk.1 6 (by kernel_rfl)).1)
          have f80 := gd e80
          have e83 : a.tmps.getD 83 undef = (.int .i64 (↑many - ↑k) : Value) := (sk_val hk 9 (by kernel_rfl) rfl rfl).trans ((hk.1 9 (by kernel_rfl)).1)
          have f83 := gd e83
          exact ro_pure (v := .slice (some ⟨gr, top * 2, none⟩) (many - k) (c - top)) (wanted_none rfl) (by simp [execOp, Act.eval, e80, f80, e83, f83, go_sem, hkz, hkz2, hkz3, hkz5, hkz6, hkz7, hkz8, hkm, HWK.out, HKQ.out]) (sp_same (by kernel_rfl) hl hs hS (show (.slice (some ⟨gr, top * 2, none⟩) (many - k) (c - top) : Value) = _ from rfl)) trivial
        refine SSteps.cons (fun a w' vs σ hS hl hs hk => ?_) ?_
        · have e84 : a.tmps.getD 84 undef = (.slice (some ⟨gr, top * 2, none⟩) (many - k) (c - top) : Value) := (sk_val hk 10 (by kernel_rfl) rfl rfl).trans ((hk.1 10 (by kernel_rfl)).1)
          have f84 := gd e84
          have hn : σ[1]? = some .none := hs 1 (by decide)
          have h2 : σ[2]? = some (.lines (.slice (some ⟨gr, 0, none⟩) L.length c) L) := hs 2 (by decide)
          have hrl := (hS.linesRd' (sg h2)).2.2
          exact ro_call (f := 85) (wanted_none rfl) rfl (by simp only [List.map_toArray, List.map_cons, List.map_nil, Act.eval, e84] <;> rfl) (fun _ _ => by kernel_rfl) ((copies_at (L := ((L.drop top).take (many - k))) (by simp; omega) (hrl.part0 (by omega) (by omega)) (by simp; omega) (fun l hl => HMILL.out l (List.mem_of_mem_drop (List.mem_of_mem_take hl)))).mono fun e w2 ⟨y, h1, h2⟩ => ⟨_, h1, sp_set 1 (.lines y ((L.drop top).take (many - k))) (by kernel_rfl) (by simp) (by decide) hl hs (by rfl) ((hS.nest h2).place (sg hn)) (by obtain ⟨A, c, e, -⟩ := h2.linesRd (k := 0) rfl; exact ⟨A, _, c, e⟩), trivial⟩)
        refine SSteps.cons (fun a w' vs σ hS hl hs hk => ?_) ?_
        · have e79 : a.tmps.getD 79 undef = vs 5 := sk_val hk 5 (by kernel_rfl) rfl rfl
          have p79 : (fun u : Value => ∃ A m c, u = .slice A m c) (vs 5) := (hk.1 5 (by kernel_rfl)).1
          have f79 := gd e79
          obtain ⟨A9, n9, c9, q9⟩ := p79
          have e9 := e79.trans q9
          have f9 := gd e9
          have h2 : σ[0]? = some (.lines (vs 5) ((L.drop (top + (many - k))).take k)) := hs 0 (by decide)
          rw [q9] at h2
          have hSS : Objs w0 w' ((σ ++ (.lines vf (rollFresh k cols q) :: .box b7 31 (pv q) :: .box x 63 #[.int .i64 ↑cols, .slice (some ⟨gr, 0, none⟩) L.length c] :: .box b5 23 #[.int .i64 ↑top, .int .i64 ↑bot] :: os)).set 0 (.lines (.slice A9 n9 c9) ((L.drop (top + (many - k))).take k))) := by rw [set_self (sg h2)]; exact hS
          exact rs_run (v' := .slice A9 n9 c9) (w' := w') (wanted_none rfl) (by simp [execOp, Act.eval, e9, f9, go_sem]) (sp_set 0 (.lines (.slice A9 n9 c9) ((L.drop (top + (many - k))).take k)) (by kernel_rfl) (by simp) (by decide) hl hs (by rfl) hSS ⟨A9, n9, c9, rfl⟩)
        refine SSteps.cons (fun a w' vs σ hS hl hs hk => ?_) ?_
        · have e85 : a.tmps.getD 85 undef = vs 11 := sk_val hk 11 (by kernel_rfl) rfl rfl
          have p85 : (fun u : Value => ∃ A m c, u = .slice A m c) (vs 11) := (hk.1 11 (by kernel_rfl)).1
          have f85 := gd e85
          obtain ⟨A9, n9, c9, q9⟩ := p85
          have e9 := e85.trans q9
          have f9 := gd e9
          have h2 : σ[1]? = some (.lines (vs 11) ((L.drop top).take (many - k))) := hs 1 (by decide)
          rw [q9] at h2
          have hSS : Objs w0 w' ((σ ++ (.lines vf (rollFresh k cols q) :: .box b7 31 (pv q) :: .box x 63 #[.int .i64 ↑cols, .slice (some ⟨gr, 0, none⟩) L.length c] :: .box b5 23 #[.int .i64 ↑top, .int .i64 ↑bot] :: os)).set 1 (.lines (.slice A9 n9 c9) ((L.drop top).take (many - k)))) := by rw [set_self (sg h2)]; exact hS
          exact rs_run (v' := .slice A9 n9 c9) (w' := w') (wanted_none rfl) (by simp [execOp, Act.eval, e9, f9, go_sem]) (sp_set 1 (.lines (.slice A9 n9 c9) ((L.drop top).take (many - k))) (by kernel_rfl) (by simp) (by decide) hl hs (by rfl) hSS ⟨A9, n9, c9, rfl⟩)
        exact SSteps.nil
      · intro vs w' hS hv
        have q0 := (show vs 0 = (.slice (some ⟨gr, top * 2, none⟩) many (c - top) : Value) from hv 0 (by decide))
        have q1 := (show vs 1 = (.int .i64 ↑many : Value) from hv 1 (by decide))
        have q2 := (show vs 2 = (.int .i64 ↑k : Value) from hv 2 (by decide))
        have q3 := (show vs 3 = (.int .i64 (↑many - ↑k) : Value) from hv 3 (by decide))
        have q4 := (show vs 4 = (.slice (some ⟨gr, top * 2 + (many - k) * 2, none⟩) k (c - top - (many - k)) : Value) from hv 4 (by decide))
        have q6 := (show vs 6 = (.slice (some ⟨gr, top * 2, none⟩) many (c - top) : Value) from hv 6 (by decide))
        have q7 := (show vs 7 = (.int .i64 ↑many : Value) from hv 7 (by decide))
        have q8 := (show vs 8 = (.int .i64 ↑k : Value) from hv 8 (by decide))
        have q9 := (show vs 9 = (.int .i64 (↑many - ↑k) : Value) from hv 9 (by decide))
        have q10 := (show vs 10 = (.slice (some ⟨gr, top * 2, none⟩) (many - k) (c - top) : Value) from hv 10 (by decide))
        obtain ⟨Ag, mg, cg, qg⟩ := (show ∃ A m c, vs 12 = .slice A m c from hv 12 (by decide))
        obtain ⟨As, ms, cs, qs⟩ := (show ∃ A m c, vs 13 = .slice A m c from hv 13 (by decide))
        rw [qg, qs] at hS
        obtain ⟨A1, n1, c1, q1⟩ := (show ∃ A m c, vs 5 = .slice A m c from hv 5 (by decide))
        obtain ⟨A2, n2, c2, q2⟩ := (show ∃ A m c, vs 11 = .slice A m c from hv 11 (by decide))
        have S2 := Lib.hid hS
        simp only [putL, Act.put, Nat.zero_add, Nat.reduceAdd, List.setIfInBounds_toArray, List.set_cons_succ, List.set_cons_zero, q0, q1, q2, q3, q4, q6, q7, q8, q9, q10]
        clear hS hv q0 q1 q2 q3 q4 q6 q7 q8 q9 q10
        simp only [qg, qs, q1, q2]
        have hSl0 : ((L.drop top).take (many - k)).length = many - k := by simp; omega
        have hGl0 : ((L.drop (top + (many - k))).take k).length = k := by simp; omega
        have emg : k = mg := ((show Objs w0 w' (.lines (.slice Ag mg cg) ((L.drop (top + (many - k))).take k) :: _) from S2.out).linesRd' (k := 0) rfl |>.1.trans hGl0).symm
        have ems : ms = many - k := (show Objs w0 w' (_ :: .lines (.slice As ms cs) ((L.drop top).take (many - k)) :: _) from S2.out).linesRd' (k := 1) rfl |>.1.trans hSl0
        subst emg ems
        obtain ⟨St, hSt⟩ : ∃ St, St = (L.drop top).take (many - k) := ⟨_, rfl⟩
        obtain ⟨G, hG⟩ : ∃ G, G = (L.drop (top + (many - k))).take k := ⟨_, rfl⟩
        rw [← hSt] at hSl0
        have hS2 := (show Objs w0 w' (.lines (.slice Ag k cg) G :: .lines (.slice As (many - k) cs) St :: .lines (.slice (some ⟨gr, 0, none⟩) L.length c) L :: .lines vf (rollFresh k cols q) :: .box b7 31 (pv q) :: .box x 63 #[.int .i64 cols, .slice (some ⟨gr, 0, none⟩) L.length c] :: .box b5 23 #[.int .i64 top, .int .i64 bot] :: os) from by rw [hG, hSt]; exact S2.out)
        have HGONE := Lib.hid (show G = rollGone top bot (-(k : Int)) L by rw [hG]; exact rgone_neg hn HMANY.out HKK.out hkm)
        obtain ⟨ls, hls⟩ := get_of (show St.length - 1 < St.length by omega)
        obtain ⟨FS, bS, hFS, -⟩ := hS2.get (k := 1) rfl
        obtain ⟨A9, c9, e9, -, -, -, hg9⟩ := hFS.form
        simp only [Value.slice.injEq] at e9
        obtain ⟨rfl, -, rfl⟩ := e9
        obtain ⟨gs, rfl, hgsz, -, hso, hfz⟩ := hg9 (by omega)
        have hx9 := hso _ _ hls
        have hS3 := hS2.storeSoft (k := 1) (s := false) rfl hls
        rw [show St.set (St.length - 1) (ls.1, false) = lastHard St from (softMod_some hls).symm, hSl0] at hS3
        rw [hSl0] at hx9
        have hpos : (0 : Int) < ((many - k : Nat) : Int) := by omega
        obtain ⟨T, Ts, Tf, ⟨hT, hTs, hTf⟩, hos, hof, hO⟩ := roll_open (show Objs w0 _ (.lines (.slice Ag k cg) G :: .lines (.slice (some ⟨gs, 0, none⟩) (many - k) cs) (lastHard St) :: .lines (.slice (some ⟨gr, 0, none⟩) L.length c) L :: .lines vf (rollFresh k cols q) :: .box b7 31 (pv q) :: .box x 63 #[.int .i64 cols, .slice (some ⟨gr, 0, none⟩) L.length c] :: .box b5 23 #[.int .i64 top, .int .i64 bot] :: os) from hS3)
        have hSl : Ts.length = many - k := by rw [← lnP_length, hTs, lastHard_length]; exact hSl0
        have hFl : Tf.length = k := by rw [← lnP_length, hTf]; simp [rollFresh]
        have hTl : T.length = L.length := by rw [← lnP_length, hT]
        obtain ⟨Af, cf, ef, hcf, -, -, hgf⟩ := hO.headsForm (k := 2) rfl
        rw [hdP_length, hFl] at ef hcf hgf
        obtain ⟨gf, rfl, hgfz, -, -⟩ := hgf hk0
        subst ef
        clear hS3 hg9 hso hFS hls hgf
        have HLEFT := Lib.hid (rleft_neg (T := T) (Ts := Ts) (Tf := Tf) hn HMANY.out htb HKK.out hkm hT (by rw [hTs, hSt]) hTf)
        obtain ⟨vg, wg, hrk, hOk, Ak, mk, ck, hvk⟩ := run_appK hO (k := 1) rfl (ad := ⟨gf, 0, none⟩) (m := k) (c := cf) (ds := hdP Tf) (by rw [hdP_length, hFl]) hk0 (fun i y hy => by have := hO.headsSub (k := 2) (a := 0) (m := k) rfl (by rw [hdP_length]; omega) i y (by rw [List.drop_zero, List.take_of_length_le (by rw [hdP_length]; omega)]; exact hy); rwa [Nat.zero_mul] at this) hof (by rw [hdP_length, hdP_length]; omega) 35
        have HRK := Lib.hid hrk
        have hsz := (show Objs w0 wg (_ :: .heads (.slice (some ⟨gs, 0, none⟩) (many - k) cs) (hdP Ts) :: _) from hOk).headsForm (k := 1) rfl
        obtain ⟨A7, c7, e7, hc7, -, -, -⟩ := hsz
        simp only [Value.slice.injEq] at e7
        obtain ⟨-, -, rfl⟩ := e7
        rw [hdP_length, hSl] at hc7
        obtain ⟨va, wa, hra, hSa, Aa, ca, hva⟩ := run_appH hOk (k := 2) rfl (ad := ⟨gs, 0, none⟩) (m := many - k) (c := cs) (ds := hdP Ts) (by rw [hdP_length, hSl]) hc7 (fun i y hy => by have := hOk.headsSub (k := 1) (a := 0) (m := many - k) rfl (by rw [hdP_length]; omega) i y (by rw [List.drop_zero, List.take_of_length_le (by rw [hdP_length]; omega)]; exact hy); rwa [Nat.zero_mul] at this) hos (by rw [hdP_length, hdP_length]; omega) 35
        rw [hdP_length, hdP_length, hSl, hFl, show k + (many - k) = many by omega] at hva
        subst hva
        obtain ⟨All, hAll⟩ : ∃ All, All = Tf ++ Ts := ⟨_, rfl⟩
        have hAl : All.length = many := by rw [hAll, List.length_append, hFl, hSl]; omega
        rw [← hdP_append, ← hAll] at hSa
        have hPP : (piP Tf ++ piP Ts).Perm (piP All) := by rw [hAll, piP_append]
        have HSLI := Lib.hid (show ∀ y ∈ All, ∃ A n c, y.1 = .slice A n c from fun y hy => (hO.pileForm (k := 5) rfl) (y.1, y.2.1) (List.mem_append.2 (.inr (hPP.mem_iff.2 (List.mem_map.2 ⟨y, hy, rfl⟩)))))
        rw [← hAll] at HLEFT
        clear hAll
        have hSb := (show Objs w0 wa (.heads (.slice (some ⟨gr, 0, none⟩) L.length c) (hdP T) :: .heads (.slice (some ⟨gs, 0, none⟩) (many - k) cs) (hdP Ts) :: .heads (.slice Aa many ca) (hdP All) :: .box x 63 #[.int .i64 cols, .slice (some ⟨gr, 0, none⟩) L.length c] :: .box b5 23 #[.int .i64 top, .int .i64 bot] :: .pile (piP T ++ (piP Tf ++ piP Ts)) :: .lines (.slice Ag k cg) G :: .box b7 31 (pv q) :: os) from hSa).del 1
        have HRA := Lib.hid hra
        obtain ⟨A8, c8, e8, -, -, -, hg8⟩ := (show Objs w0 wa (.heads (.slice (some ⟨gr, 0, none⟩) L.length c) (hdP T) :: .heads (.slice Aa many ca) (hdP All) :: _) from hSb).headsForm (k := 1) rfl
        simp only [Value.slice.injEq] at e8
        obtain ⟨rfl, -, rfl⟩ := e8
        obtain ⟨ga, rfl, -, -, -⟩ := hg8 (by rw [hdP_length]; omega)
        have HPERM := Lib.hid (@rperm T Ts Tf top many All hPP)
        obtain ⟨P, hP⟩ : ∃ P, P = piP T ++ (piP Tf ++ piP Ts) := ⟨_, rfl⟩
        rw [← hP] at HPERM hSb
        obtain ⟨T1, hT1⟩ : ∃ T1, T1 = T.take top := ⟨_, rfl⟩
        obtain ⟨Rr, hRr⟩ : ∃ Rr, Rr = T.drop top := ⟨_, rfl⟩
        have hTT : hdP T = hdP T1 ++ (hdP (All.take 0) ++ hdP (Rr.drop 0)) := by rw [hT1, hRr]; simp [hdP]
        have HT1 := Lib.hid (show T1.length = top by rw [hT1]; simp; omega)
        have HRL := Lib.hid (show Rr.length = L.length - top by rw [hRr]; simp; omega)
        rw [← hT1, ← hRr] at HPERM
        rw [← hT1, ← hRr] at HLEFT
        rw [hTT] at hSb
        have SB := Lib.hid hSb
        have HAL := Lib.hid hAl
        clear hSa hSb hra hrk hOk hO hg8 hP hT1 hRr hTT hPP hS2 hT hTs hTf hos hof hSl hFl hTl hG hSt hcf hSl0 hGl0 hAl SZ
        go_upto_region 21 with (at_builtin; refine wpList_app _ _ (wanted_none rfl) rfl rfl rfl HRK.out ?_)
        go_wp2_with (at_builtin; refine wpList_app _ _ (wanted_none rfl) rfl rfl rfl HRA.out ?_)
        go_loopw [17] (fun vi wr => ∃ d : Nat, d ≤ many ∧ vi = .int .i64 d ∧ Objs w0 wr (.heads (.slice (some ⟨gr, 0, none⟩) L.length c) (hdP T1 ++ (hdP (All.take d) ++ hdP (Rr.drop d))) :: .heads (.slice (some ⟨ga, 0, none⟩) many ca) (hdP All) :: .box x 63 #[.int .i64 cols, .slice (some ⟨gr, 0, none⟩) L.length c] :: .box b5 23 #[.int .i64 top, .int .i64 bot] :: .pile P :: .lines (.slice Ag k cg) G :: .box b7 31 (pv q) :: os)) (fun vi _ => many - (intOf vi).toNat)
        case atStart => exact ⟨0, by omega, rfl, SB.out⟩
        case round =>
          obtain ⟨d, hdm, rfl, hS⟩ := hrel
          have S8 := Lib.hid hS
          clear hS SB
          by_cases hlt : d < many
          case neg =>
            have hX := S8.out
            have hd : d = many := by omega
            rw [hd, List.take_of_length_le (by rw [HAL.out]; exact Nat.le_refl _), ← hdP_append, ← hdP_append] at hX
            have hX2 := roll_shut HPERM.out hX
            obtain ⟨L1, hL1⟩ : ∃ L1, L1 = lnP (T1 ++ (All ++ Rr.drop many)) := ⟨_, rfl⟩
            have HLF := HLEFT
            rw [← hL1] at hX2 HLF
            have hL1l : L1.length = L.length := by rw [hL1, lnP_length]; simp only [List.length_append, List.length_drop]; have := HT1.out; have := HRL.out; have := HAL.out; omega
            have SX := Lib.hid hX2
            obtain ⟨hx5, hf5, hz5⟩ := (hX2.box (k := 2) rfl).facts
            clear hX hX2 hd hL1 S8
            by_cases ht0 : top = 0
            · have HT0 := Lib.hid (show topHard top L1 = L1 by unfold topHard; rw [if_neg (by omega)])
              have htg : ¬ (0 : Int) < (top : Int) := by omega
              have SF := Lib.hid (fin_roll2 SX.out)
              clear ht0
              go_wp2_with fail
              go_ret
              exact ⟨Ag, k, cg, rfl, by rw [← HGONE.out, ← HLF.out, HT0.out]; exact SF.out⟩
            · have htg : (0 : Int) < (top : Int) := by omega
              obtain ⟨l9, hlt1⟩ := get_of (show top - 1 < L1.length by omega)
              have HT0 := Lib.hid (show L1.set (top - 1) (l9.1, false) = topHard top L1 by unfold topHard; rw [if_pos (by omega), softMod_some hlt1])
              have HWT := Lib.hid (show IntKind.i64.wrap ((top : Int) - 1) = (top : Int) - 1 from IntWalk.i64_in _ (by omega))
              have htz : (0 : Int) ≤ (top : Int) - 1 := by omega
              have htz2 : (top : Int) - 1 < (L.length : Int) := by omega
              have htz3 : ¬ (top : Int) < 1 := by omega
              have htn : ((top : Int) - 1).toNat = top - 1 := by omega
              have SY := SX
              go_upto_region 27 with (fail)
              refine wp_region_stage (w0 := w0) (os := (.lines (.slice Ag k cg) G :: .box b7 31 (pv q) :: os)) (by kernel_rfl) (by kernel_rfl) (by kernel_rfl) [(0, 9, [], fun vs => .lines (.slice (some ⟨gr, 0, none⟩) L.length c) (L1.set (top - 1) (l9.1, false)))] [[], [], [], [1], [], [2], [], [], [], [0]] [.lines (.slice (some ⟨gr, 0, none⟩) L.length c) L1, .box x 63 #[.int .i64 ↑cols, .slice (some ⟨gr, 0, none⟩) L.length c], .box b5 23 #[.int .i64 ↑top, .int .i64 ↑bot]] (fun i u => match i with | 0 => u = (.pointer (some ⟨x, 0, none⟩) : Value) | 1 => u = (.pointer (some ⟨x, 0, none⟩) : Value) | 2 => u = (.pointer (some ⟨x, 1, none⟩) : Value) | 3 => u = (.slice (some ⟨gr, 0, none⟩) L.length c : Value) | 4 => u = (.pointer (some ⟨b5, 0, none⟩) : Value) | 5 => u = (.int .i64 ↑top : Value) | 6 => u = (.int .i64 (↑top - 1) : Value) | 7 => u = (.pointer (some ⟨gr, (top - 1) * 2, none⟩) : Value) | 8 => u = (.pointer (some ⟨gr, (top - 1) * 2 + 1, none⟩) : Value) | 9 => True | _ => True) (fun vs => [.lines (.slice (some ⟨gr, 0, none⟩) L.length c) (L1.set (top - 1) (l9.1, false)), .box x 63 #[.int .i64 ↑cols, .slice (some ⟨gr, 0, none⟩) L.length c], .box b5 23 #[.int .i64 ↑top, .int .i64 ↑bot]]) (by kernel_rfl) (fun vs => by rfl) SY.out ?_ ?_
              · refine SSteps.cons (fun a w' vs σ hS hl hs hk => ?_) ?_
                · have e0 : a.tmps.getD 0 undef = (.pointer (some ⟨x, 0, none⟩) : Value) := (sk_old hk 0 (by kernel_rfl)).trans rfl
                  have f0 := gd e0
                  exact ro_pure (v := .pointer (some ⟨x, 0, none⟩)) (wanted_none rfl) (by simp [execOp, Act.eval, e0, f0, go_sem]) (sp_same (by kernel_rfl) hl hs hS (show (.pointer (some ⟨x, 0, none⟩) : Value) = _ from rfl)) trivial
                refine SSteps.cons (fun a w' vs σ hS hl hs hk => ?_) ?_
                · have e124 : a.tmps.getD 124 undef = (.pointer (some ⟨x, 0, none⟩) : Value) := (sk_val hk 0 (by kernel_rfl) rfl rfl).trans ((hk.1 0 (by kernel_rfl)).1)
                  have f124 := gd e124
                  exact ro_pure (v := .pointer (some ⟨x, 0, none⟩)) (wanted_none rfl) (by simp [execOp, Act.eval, e124, f124, go_sem]) (sp_same (by kernel_rfl) hl hs hS (show (.pointer (some ⟨x, 0, none⟩) : Value) = _ from rfl)) trivial
                refine SSteps.cons (fun a w' vs σ hS hl hs hk => ?_) ?_
                · have e125 : a.tmps.getD 125 undef = (.pointer (some ⟨x, 0, none⟩) : Value) := (sk_val hk 1 (by kernel_rfl) rfl rfl).trans ((hk.1 1 (by kernel_rfl)).1)
                  have f125 := gd e125
                  exact ro_pure (v := .pointer (some ⟨x, 1, none⟩)) (wanted_none rfl) (by simp [execOp, Act.eval, e125, f125, go_sem]) (sp_same (by kernel_rfl) hl hs hS (show (.pointer (some ⟨x, 1, none⟩) : Value) = _ from rfl)) trivial
                refine SSteps.cons (fun a w' vs σ hS hl hs hk => ?_) ?_
                · have e126 : a.tmps.getD 126 undef = (.pointer (some ⟨x, 1, none⟩) : Value) := (sk_val hk 2 (by kernel_rfl) rfl rfl).trans ((hk.1 2 (by kernel_rfl)).1)
                  have f126 := gd e126
                  have hx := (hS.box (sg (hs 1 (by decide)))).cell
                  exact ro_pure (v := .slice (some ⟨gr, 0, none⟩) L.length c) (wanted_none rfl) (by simp [execOp, Act.eval, e126, f126, go_sem, hx]) (sp_same (by kernel_rfl) hl hs hS (show (.slice (some ⟨gr, 0, none⟩) L.length c : Value) = _ from rfl)) trivial
                refine SSteps.cons (fun a w' vs σ hS hl hs hk => ?_) ?_
                · have e5 : a.tmps.getD 5 undef = (.pointer (some ⟨b5, 0, none⟩) : Value) := (sk_old hk 5 (by kernel_rfl)).trans rfl
                  have f5 := gd e5
                  exact ro_pure (v := .pointer (some ⟨b5, 0, none⟩)) (wanted_none rfl) (by simp [execOp, Act.eval, e5, f5, go_sem]) (sp_same (by kernel_rfl) hl hs hS (show (.pointer (some ⟨b5, 0, none⟩) : Value) = _ from rfl)) trivial
                refine SSteps.cons (fun a w' vs σ hS hl hs hk => ?_) ?_
                · have e128 : a.tmps.getD 128 undef = (.pointer (some ⟨b5, 0, none⟩) : Value) := (sk_val hk 4 (by kernel_rfl) rfl rfl).trans ((hk.1 4 (by kernel_rfl)).1)
                  have f128 := gd e128
                  have hx := (hS.box (sg (hs 2 (by decide)))).cell
                  exact ro_pure (v := .int .i64 ↑top) (wanted_none rfl) (by simp [execOp, Act.eval, e128, f128, go_sem, hx]) (sp_same (by kernel_rfl) hl hs hS (show (.int .i64 ↑top : Value) = _ from rfl)) trivial
                refine SSteps.cons (fun a w' vs σ hS hl hs hk => ?_) ?_
                · have e129 : a.tmps.getD 129 undef = (.int .i64 ↑top : Value) := (sk_val hk 5 (by kernel_rfl) rfl rfl).trans ((hk.1 5 (by kernel_rfl)).1)
                  have f129 := gd e129
                  exact ro_pure (v := .int .i64 (↑top - 1)) (wanted_none rfl) (by simp [execOp, Act.eval, e129, f129, go_sem, HWT.out]) (sp_same (by kernel_rfl) hl hs hS (show (.int .i64 (↑top - 1) : Value) = _ from rfl)) trivial
                refine SSteps.cons (fun a w' vs σ hS hl hs hk => ?_) ?_
                · have e127 : a.tmps.getD 127 undef = (.slice (some ⟨gr, 0, none⟩) L.length c : Value) := (sk_val hk 3 (by kernel_rfl) rfl rfl).trans ((hk.1 3 (by kernel_rfl)).1)
                  have f127 := gd e127
                  have e130 : a.tmps.getD 130 undef = (.int .i64 (↑top - 1) : Value) := (sk_val hk 6 (by kernel_rfl) rfl rfl).trans ((hk.1 6 (by kernel_rfl)).1)
                  have f130 := gd e130
                  exact ro_pure (v := .pointer (some ⟨gr, (top - 1) * 2, none⟩)) (wanted_none rfl) (by simp [execOp, Act.eval, e127, f127, e130, f130, go_sem, htz, htz2, htn, htz3]) (sp_same (by kernel_rfl) hl hs hS (show (.pointer (some ⟨gr, (top - 1) * 2, none⟩) : Value) = _ from rfl)) trivial
                refine SSteps.cons (fun a w' vs σ hS hl hs hk => ?_) ?_
                · have e131 : a.tmps.getD 131 undef = (.pointer (some ⟨gr, (top - 1) * 2, none⟩) : Value) := (sk_val hk 7 (by kernel_rfl) rfl rfl).trans ((hk.1 7 (by kernel_rfl)).1)
                  have f131 := gd e131
                  exact ro_pure (v := .pointer (some ⟨gr, (top - 1) * 2 + 1, none⟩)) (wanted_none rfl) (by simp [execOp, Act.eval, e131, f131, go_sem]) (sp_same (by kernel_rfl) hl hs hS (show (.pointer (some ⟨gr, (top - 1) * 2 + 1, none⟩) : Value) = _ from rfl)) trivial
                refine SSteps.cons (fun a w' vs σ hS hl hs hk => ?_) ?_
                · have e132 : a.tmps.getD 132 undef = (.pointer (some ⟨gr, (top - 1) * 2 + 1, none⟩) : Value) := (sk_val hk 8 (by kernel_rfl) rfl rfl).trans ((hk.1 8 (by kernel_rfl)).1)
                  have f132 := gd e132
                  have h1 : σ[0]? = some (.lines (.slice (some ⟨gr, 0, none⟩) L.length c) L1) := hs 0 (by decide)
                  obtain ⟨F9, bs9, hF9, -⟩ := hS.get (sg h1)
                  obtain ⟨A9, c9, e9, -, -, -, hg9⟩ := hF9.form
                  simp only [Value.slice.injEq] at e9
                  obtain ⟨rfl, -, rfl⟩ := e9
                  obtain ⟨g9, e9', hz, -, hso, hf⟩ := hg9 (by omega)
                  cases e9'
                  have hx := hso _ _ hlt1
                  exact rstep_store (w2 := w'.setCell ⟨gr, (top - 1) * 2 + 1, none⟩ (.bool false)) (wanted_none rfl) rfl (by simp [execOp, Act.eval, e132, f132, hx, hf, hz, go_sem]) (sp_set 0 (.lines (.slice (some ⟨gr, 0, none⟩) L.length c) (L1.set (top - 1) (l9.1, false))) (by kernel_rfl) (by simp) (by decide) hl hs (by rfl) (hS.storeSoft (sg h1) hlt1) trivial) trivial
                exact SSteps.nil
              · intro vs w' hS hv
                have q0 := (show vs 0 = (.pointer (some ⟨x, 0, none⟩) : Value) from hv 0 (by decide))
                have q1 := (show vs 1 = (.pointer (some ⟨x, 0, none⟩) : Value) from hv 1 (by decide))
                have q2 := (show vs 2 = (.pointer (some ⟨x, 1, none⟩) : Value) from hv 2 (by decide))
                have q3 := (show vs 3 = (.slice (some ⟨gr, 0, none⟩) L.length c : Value) from hv 3 (by decide))
                have q4 := (show vs 4 = (.pointer (some ⟨b5, 0, none⟩) : Value) from hv 4 (by decide))
                have q5 := (show vs 5 = (.int .i64 ↑top : Value) from hv 5 (by decide))
                have q6 := (show vs 6 = (.int .i64 (↑top - 1) : Value) from hv 6 (by decide))
                have q7 := (show vs 7 = (.pointer (some ⟨gr, (top - 1) * 2, none⟩) : Value) from hv 7 (by decide))
                have q8 := (show vs 8 = (.pointer (some ⟨gr, (top - 1) * 2 + 1, none⟩) : Value) from hv 8 (by decide))
                have S2 := Lib.hid hS
                simp only [putL, Act.put, Nat.zero_add, Nat.reduceAdd, List.setIfInBounds_toArray, List.set_cons_succ, List.set_cons_zero, q0, q1, q2, q3, q4, q5, q6, q7, q8]
                clear hS hv q0 q1 q2 q3 q4 q5 q6 q7 q8
                have S9 := S2.out
                rw [HT0.out] at S9
                have SF := Lib.hid (fin_roll2 S9)
                clear S9 S2
                go_wp2_with fail
                go_ret
                exact ⟨Ag, k, cg, rfl, by rw [← HGONE.out, ← HLF.out]; exact SF.out⟩
          have hdA : d < All.length := by rw [HAL.out]; exact hlt
          have hdR : d < Rr.length := by rw [HRL.out]; omega
          obtain ⟨Ad, nd, cd, hsl⟩ := HSLI.out All[d] (List.getElem_mem hdA)
          have hdz : (0 : Int) ≤ (d : Int) := by omega
          have hdz2 : (d : Int) < (many : Int) := by omega
          have htz : (0 : Int) ≤ (top : Int) + (d : Int) := by omega
          have htz2 : (top : Int) + (d : Int) < (L.length : Int) := by omega
          have htn : ((top : Int) + (d : Int)).toNat = top + d := by omega
          have HWD := Lib.hid (show IntKind.i64.wrap ((top : Int) + (d : Int)) = (top : Int) + (d : Int) from IntWalk.i64_in _ (by omega))
          have HHL := Lib.hid (show (hdP T1 ++ (hdP (All.take d) ++ hdP (Rr.drop d))).length = top + (d + (Rr.length - d)) by simp only [List.length_append, hdP_length, List.length_drop, List.length_take, HT1.out]; omega)
          go_upto_region 25 with (fail)
          refine wp_region_stage (w0 := w0) (os := (.pile P :: .lines (.slice Ag k cg) G :: .box b7 31 (pv q) :: os)) (by kernel_rfl) (by kernel_rfl) (by kernel_rfl) [(0, 13, [], fun vs => .heads (.slice (some ⟨gr, 0, none⟩) L.length c) (List.set (hdP T1 ++ (hdP (All.take d) ++ hdP (Rr.drop d))) (top + d) (All[d].1, All[d].2.2)))] [[], [], [], [2], [], [3], [], [], [], [], [], [1], [], [0]] [.heads (.slice (some ⟨gr, 0, none⟩) L.length c) (hdP T1 ++ (hdP (All.take d) ++ hdP (Rr.drop d))), .heads (.slice (some ⟨ga, 0, none⟩) many ca) (hdP All), .box x 63 #[.int .i64 ↑cols, .slice (some ⟨gr, 0, none⟩) L.length c], .box b5 23 #[.int .i64 ↑top, .int .i64 ↑bot]] (fun i u => match i with | 0 => u = (.pointer (some ⟨x, 0, none⟩) : Value) | 1 => u = (.pointer (some ⟨x, 0, none⟩) : Value) | 2 => u = (.pointer (some ⟨x, 1, none⟩) : Value) | 3 => u = (.slice (some ⟨gr, 0, none⟩) L.length c : Value) | 4 => u = (.pointer (some ⟨b5, 0, none⟩) : Value) | 5 => u = (.int .i64 ↑top : Value) | 6 => u = (.int .i64 ↑d : Value) | 7 => u = (.int .i64 (↑top + ↑d) : Value) | 8 => u = (.slice (some ⟨ga, 0, none⟩) many ca : Value) | 9 => u = (.int .i64 ↑d : Value) | 10 => u = (.pointer (some ⟨ga, d * 2, none⟩) : Value) | 11 => u = (.agg #[All[d].1, .bool All[d].2.2] : Value) | 12 => u = (.pointer (some ⟨gr, (top + d) * 2, none⟩) : Value) | 13 => True | _ => True) (fun vs => [.heads (.slice (some ⟨gr, 0, none⟩) L.length c) (List.set (hdP T1 ++ (hdP (All.take d) ++ hdP (Rr.drop d))) (top + d) (All[d].1, All[d].2.2)), .heads (.slice (some ⟨ga, 0, none⟩) many ca) (hdP All), .box x 63 #[.int .i64 ↑cols, .slice (some ⟨gr, 0, none⟩) L.length c], .box b5 23 #[.int .i64 ↑top, .int .i64 ↑bot]]) (by kernel_rfl) (fun vs => by rfl) S8.out ?_ ?_
          · refine SSteps.cons (fun a w' vs σ hS hl hs hk => ?_) ?_
            · have e0 : a.tmps.getD 0 undef = (.pointer (some ⟨x, 0, none⟩) : Value) := (sk_old hk 0 (by kernel_rfl)).trans rfl
              have f0 := gd e0
              exact ro_pure (v := .pointer (some ⟨x, 0, none⟩)) (wanted_none rfl) (by simp [execOp, Act.eval, e0, f0, go_sem]) (sp_same (by kernel_rfl) hl hs hS (show (.pointer (some ⟨x, 0, none⟩) : Value) = _ from rfl)) trivial
            refine SSteps.cons (fun a w' vs σ hS hl hs hk => ?_) ?_
            · have e108 : a.tmps.getD 108 undef = (.pointer (some ⟨x, 0, none⟩) : Value) := (sk_val hk 0 (by kernel_rfl) rfl rfl).trans ((hk.1 0 (by kernel_rfl)).1)
              have f108 := gd e108
              exact ro_pure (v := .pointer (some ⟨x, 0, none⟩)) (wanted_none rfl) (by simp [execOp, Act.eval, e108, f108, go_sem]) (sp_same (by kernel_rfl) hl hs hS (show (.pointer (some ⟨x, 0, none⟩) : Value) = _ from rfl)) trivial
            refine SSteps.cons (fun a w' vs σ hS hl hs hk => ?_) ?_
            · have e109 : a.tmps.getD 109 undef = (.pointer (some ⟨x, 0, none⟩) : Value) := (sk_val hk 1 (by kernel_rfl) rfl rfl).trans ((hk.1 1 (by kernel_rfl)).1)
              have f109 := gd e109
              exact ro_pure (v := .pointer (some ⟨x, 1, none⟩)) (wanted_none rfl) (by simp [execOp, Act.eval, e109, f109, go_sem]) (sp_same (by kernel_rfl) hl hs hS (show (.pointer (some ⟨x, 1, none⟩) : Value) = _ from rfl)) trivial
            refine SSteps.cons (fun a w' vs σ hS hl hs hk => ?_) ?_
            · have e110 : a.tmps.getD 110 undef = (.pointer (some ⟨x, 1, none⟩) : Value) := (sk_val hk 2 (by kernel_rfl) rfl rfl).trans ((hk.1 2 (by kernel_rfl)).1)
              have f110 := gd e110
              have hx := (hS.box (sg (hs 2 (by decide)))).cell
              exact ro_pure (v := .slice (some ⟨gr, 0, none⟩) L.length c) (wanted_none rfl) (by simp [execOp, Act.eval, e110, f110, go_sem, hx]) (sp_same (by kernel_rfl) hl hs hS (show (.slice (some ⟨gr, 0, none⟩) L.length c : Value) = _ from rfl)) trivial
            refine SSteps.cons (fun a w' vs σ hS hl hs hk => ?_) ?_
            · have e5 : a.tmps.getD 5 undef = (.pointer (some ⟨b5, 0, none⟩) : Value) := (sk_old hk 5 (by kernel_rfl)).trans rfl
              have f5 := gd e5
              exact ro_pure (v := .pointer (some ⟨b5, 0, none⟩)) (wanted_none rfl) (by simp [execOp, Act.eval, e5, f5, go_sem]) (sp_same (by kernel_rfl) hl hs hS (show (.pointer (some ⟨b5, 0, none⟩) : Value) = _ from rfl)) trivial
            refine SSteps.cons (fun a w' vs σ hS hl hs hk => ?_) ?_
            · have e112 : a.tmps.getD 112 undef = (.pointer (some ⟨b5, 0, none⟩) : Value) := (sk_val hk 4 (by kernel_rfl) rfl rfl).trans ((hk.1 4 (by kernel_rfl)).1)
              have f112 := gd e112
              have hx := (hS.box (sg (hs 3 (by decide)))).cell
              exact ro_pure (v := .int .i64 ↑top) (wanted_none rfl) (by simp [execOp, Act.eval, e112, f112, go_sem, hx]) (sp_same (by kernel_rfl) hl hs hS (show (.int .i64 ↑top : Value) = _ from rfl)) trivial
            refine SSteps.cons (fun a w' vs σ hS hl hs hk => ?_) ?_
            · have e17 : a.tmps.getD 17 undef = (.int .i64 ↑d : Value) := (sk_old hk 17 (by kernel_rfl)).trans rfl
              have f17 := gd e17
              exact ro_pure (v := .int .i64 ↑d) (wanted_none rfl) (by simp [execOp, Act.eval, e17, f17, go_sem]) (sp_same (by kernel_rfl) hl hs hS (show (.int .i64 ↑d : Value) = _ from rfl)) trivial
            refine SSteps.cons (fun a w' vs σ hS hl hs hk => ?_) ?_
            · have e113 : a.tmps.getD 113 undef = (.int .i64 ↑top : Value) := (sk_val hk 5 (by kernel_rfl) rfl rfl).trans ((hk.1 5 (by kernel_rfl)).1)
              have f113 := gd e113
              have e114 : a.tmps.getD 114 undef = (.int .i64 ↑d : Value) := (sk_val hk 6 (by kernel_rfl) rfl rfl).trans ((hk.1 6 (by kernel_rfl)).1)
              have f114 := gd e114
              exact ro_pure (v := .int .i64 (↑top + ↑d)) (wanted_none rfl) (by simp [execOp, Act.eval, e113, f113, e114, f114, go_sem, HWD.out]) (sp_same (by kernel_rfl) hl hs hS (show (.int .i64 (↑top + ↑d) : Value) = _ from rfl)) trivial
            refine SSteps.cons (fun a w' vs σ hS hl hs hk => ?_) ?_
            · have e16 : a.tmps.getD 16 undef = (.slice (some ⟨ga, 0, none⟩) many ca : Value) := (sk_old hk 16 (by kernel_rfl)).trans rfl
              have f16 := gd e16
              exact ro_pure (v := .slice (some ⟨ga, 0, none⟩) many ca) (wanted_none rfl) (by simp [execOp, Act.eval, e16, f16, go_sem]) (sp_same (by kernel_rfl) hl hs hS (show (.slice (some ⟨ga, 0, none⟩) many ca : Value) = _ from rfl)) trivial
            refine SSteps.cons (fun a w' vs σ hS hl hs hk => ?_) ?_
            · have e17 : a.tmps.getD 17 undef = (.int .i64 ↑d : Value) := (sk_old hk 17 (by kernel_rfl)).trans rfl
              have f17 := gd e17
              exact ro_pure (v := .int .i64 ↑d) (wanted_none rfl) (by simp [execOp, Act.eval, e17, f17, go_sem]) (sp_same (by kernel_rfl) hl hs hS (show (.int .i64 ↑d : Value) = _ from rfl)) trivial
            refine SSteps.cons (fun a w' vs σ hS hl hs hk => ?_) ?_
            · have e116 : a.tmps.getD 116 undef = (.slice (some ⟨ga, 0, none⟩) many ca : Value) := (sk_val hk 8 (by kernel_rfl) rfl rfl).trans ((hk.1 8 (by kernel_rfl)).1)
              have f116 := gd e116
              have e117 : a.tmps.getD 117 undef = (.int .i64 ↑d : Value) := (sk_val hk 9 (by kernel_rfl) rfl rfl).trans ((hk.1 9 (by kernel_rfl)).1)
              have f117 := gd e117
              exact ro_pure (v := .pointer (some ⟨ga, d * 2, none⟩)) (wanted_none rfl) (by simp [execOp, Act.eval, e116, f116, e117, f117, go_sem, hdz, hdz2]) (sp_same (by kernel_rfl) hl hs hS (show (.pointer (some ⟨ga, d * 2, none⟩) : Value) = _ from rfl)) trivial
            refine SSteps.cons (fun a w' vs σ hS hl hs hk => ?_) ?_
            · have e118 : a.tmps.getD 118 undef = (.pointer (some ⟨ga, d * 2, none⟩) : Value) := (sk_val hk 10 (by kernel_rfl) rfl rfl).trans ((hk.1 10 (by kernel_rfl)).1)
              have f118 := gd e118
              have h1 : σ[1]? = some (.heads (.slice (some ⟨ga, 0, none⟩) many ca) (hdP All)) := hs 1 (by decide)
              obtain ⟨A8, c8, e8, -, -, -, hg8⟩ := hS.headsForm (sg h1)
              simp only [Value.slice.injEq] at e8
              obtain ⟨rfl, -, rfl⟩ := e8
              obtain ⟨g8, e9, hz, hcs, hf⟩ := hg8 (by rw [hdP_length]; omega)
              cases e9
              obtain ⟨hx, hx'⟩ := hcs d (All[d].1, All[d].2.2) (by simp [hdP, hdA])
              exact ro_pure (v := .agg #[All[d].1, .bool All[d].2.2]) (wanted_none rfl) (by simp [execOp, Act.eval, e118, f118, hx, hx', go_sem]) (sp_same (by kernel_rfl) hl hs hS rfl) trivial
            refine SSteps.cons (fun a w' vs σ hS hl hs hk => ?_) ?_
            · have e111 : a.tmps.getD 111 undef = (.slice (some ⟨gr, 0, none⟩) L.length c : Value) := (sk_val hk 3 (by kernel_rfl) rfl rfl).trans ((hk.1 3 (by kernel_rfl)).1)
              have f111 := gd e111
              have e115 : a.tmps.getD 115 undef = (.int .i64 (↑top + ↑d) : Value) := (sk_val hk 7 (by kernel_rfl) rfl rfl).trans ((hk.1 7 (by kernel_rfl)).1)
              have f115 := gd e115
              exact ro_pure (v := .pointer (some ⟨gr, (top + d) * 2, none⟩)) (wanted_none rfl) (by simp [execOp, Act.eval, e111, f111, e115, f115, go_sem, htz, htz2, htn]) (sp_same (by kernel_rfl) hl hs hS (show (.pointer (some ⟨gr, (top + d) * 2, none⟩) : Value) = _ from rfl)) trivial
            refine SSteps.cons (fun a w' vs σ hS hl hs hk => ?_) ?_
            · have e120 : a.tmps.getD 120 undef = (.pointer (some ⟨gr, (top + d) * 2, none⟩) : Value) := (sk_val hk 12 (by kernel_rfl) rfl rfl).trans ((hk.1 12 (by kernel_rfl)).1)
              have f120 := gd e120
              have e119 : a.tmps.getD 119 undef = (.agg #[All[d].1, .bool All[d].2.2] : Value) := (sk_val hk 11 (by kernel_rfl) rfl rfl).trans ((hk.1 11 (by kernel_rfl)).1)
              have f119 := gd e119
              have h1 : σ[0]? = some (.heads (.slice (some ⟨gr, 0, none⟩) L.length c) (hdP T1 ++ (hdP (All.take d) ++ hdP (Rr.drop d)))) := hs 0 (by decide)
              obtain ⟨A8, c8, e8, -, -, -, hg8⟩ := hS.headsForm (sg h1)
              simp only [Value.slice.injEq] at e8
              obtain ⟨rfl, -, rfl⟩ := e8
              have hHl := HHL.out
              obtain ⟨g8, e9, hz, hcs, hf⟩ := hg8 (by omega)
              cases e9
              obtain ⟨x8, hx8⟩ := get_of (show top + d < (hdP T1 ++ (hdP (All.take d) ++ hdP (Rr.drop d))).length by omega)
              obtain ⟨hx, hx'⟩ := hcs (top + d) x8 hx8
              exact rstep_store (w2 := (w'.setCell ⟨gr, (top + d) * 2, none⟩ All[d].1).setCell ⟨gr, (top + d) * 2 + 1, none⟩ (.bool All[d].2.2)) (wanted_none rfl) rfl (by simp [execOp, Act.eval, e120, f120, e119, f119, hsl, hx, hx', hf, hz, go_sem]) (sp_set 0 (.heads (.slice (some ⟨gr, 0, none⟩) L.length c) (List.set (hdP T1 ++ (hdP (All.take d) ++ hdP (Rr.drop d))) (top + d) (All[d].1, All[d].2.2))) (by kernel_rfl) (by simp) (by decide) hl hs (by rfl) (hS.storeHead (sg h1)) trivial) trivial
            exact SSteps.nil
          · intro vs w' hS hv
            have q0 := (show vs 0 = (.pointer (some ⟨x, 0, none⟩) : Value) from hv 0 (by decide))
            have q1 := (show vs 1 = (.pointer (some ⟨x, 0, none⟩) : Value) from hv 1 (by decide))
            have q2 := (show vs 2 = (.pointer (some ⟨x, 1, none⟩) : Value) from hv 2 (by decide))
            have q3 := (show vs 3 = (.slice (some ⟨gr, 0, none⟩) L.length c : Value) from hv 3 (by decide))
            have q4 := (show vs 4 = (.pointer (some ⟨b5, 0, none⟩) : Value) from hv 4 (by decide))
            have q5 := (show vs 5 = (.int .i64 ↑top : Value) from hv 5 (by decide))
            have q6 := (show vs 6 = (.int .i64 ↑d : Value) from hv 6 (by decide))
            have q7 := (show vs 7 = (.int .i64 (↑top + ↑d) : Value) from hv 7 (by decide))
            have q8 := (show vs 8 = (.slice (some ⟨ga, 0, none⟩) many ca : Value) from hv 8 (by decide))
            have q9 := (show vs 9 = (.int .i64 ↑d : Value) from hv 9 (by decide))
            have q10 := (show vs 10 = (.pointer (some ⟨ga, d * 2, none⟩) : Value) from hv 10 (by decide))
            have q11 := (show vs 11 = (.agg #[All[d].1, .bool All[d].2.2] : Value) from hv 11 (by decide))
            have q12 := (show vs 12 = (.pointer (some ⟨gr, (top + d) * 2, none⟩) : Value) from hv 12 (by decide))
            have S2 := Lib.hid hS
            simp only [putL, Act.put, Nat.zero_add, Nat.reduceAdd, List.setIfInBounds_toArray, List.set_cons_succ, List.set_cons_zero, q0, q1, q2, q3, q4, q5, q6, q7, q8, q9, q10, q11, q12]
            clear hS hv q0 q1 q2 q3 q4 q5 q6 q7 q8 q9 q10 q11 q12
            have S9 := S2.out
            rw [hdP_fill All[d].1 All[d].2.1 All[d].2.2 HT1.out (by rw [List.length_take]; omega) hdR, show All.take d ++ [(All[d].1, All[d].2.1, All[d].2.2)] = All.take (d + 1) from (List.take_succ_eq_append_getElem hdA).symm] at S9
            have S10 := Lib.hid S9
            clear S9 S2
            go_wp2_with fail
            go_roundw
            case rel => exact ⟨d + 1, by omega, by go_num, S10.out⟩
            case measure => simp [intOf]; omega
  · subst h2
    have hnl : ¬ -(k : Int) < n := by omega
    have hngt : ¬ (0 : Int) < n := by omega
    have hmi := HMI.out
    go_wp2_with fail
    go_loopw [11, 12] (fun u11 vi wr => ∃ (d : Nat) (vf : Value), d ≤ k ∧ vf = u11 ∧ vi = .int .i64 d ∧ Objs w0 wr (.lines vf (rollFresh d cols q) :: .box b7 31 (pv q) :: .box x 63 #[.int .i64 cols, .slice (some ⟨gr, 0, none⟩) L.length c] :: .lines (.slice (some ⟨gr, 0, none⟩) L.length c) L :: .box b5 23 #[.int .i64 top, .int .i64 bot] :: os)) (fun _ vi _ => k - (intOf vi).toNat)
    case atStart => exact ⟨0, _, by omega, rfl, rfl, S1.out⟩
    case round =>
      obtain ⟨d, vf, hdk, rfl, rfl, hS⟩ := hrel
      have S2 := Lib.hid hS
      clear hS S1
      by_cases hlt : d < k
      · have SZ := Lib.hid S2.out.pad.pad
        clear S2
        go_upto_region 11 with (fail)
        refine wp_region_stage (w0 := w0) (os := (.lines (.slice (some ⟨gr, 0, none⟩) L.length c) L :: .box b5 23 #[.int .i64 ↑top, .int .i64 ↑bot] :: os)) (by kernel_rfl) (by kernel_rfl) (by kernel_rfl) [(0, 6, [6], fun vs => .cells (lineV (vs 6)) (List.replicate cols (blank q))), (1, 7, [6, 7], fun vs => .box (blkOf (vs 7)) 79 #[lineV (vs 6), .bool false]), (2, 8, [8], fun vs => .lines (vs 8) (rollFresh (d + 1) cols q)), (0, 8, [], fun vs => .none), (2, 9, [9], fun vs => .lines (vs 9) (rollFresh (d + 1) cols q))] [[], [], [], [], [4], [3], [0], [1], [0, 1, 2], [2]] [.none, .none, .lines vf (rollFresh d cols q), .box b7 31 (pv q), .box x 63 #[.int .i64 ↑cols, .slice (some ⟨gr, 0, none⟩) L.length c]] (fun i u => match i with | 0 => u = (vf : Value) | 1 => u = (.pointer (some ⟨x, 0, none⟩) : Value) | 2 => u = (.pointer (some ⟨x, 0, none⟩) : Value) | 3 => u = (.pointer (some ⟨x, 0, none⟩) : Value) | 4 => u = (.int .i64 ↑cols : Value) | 5 => u = (.agg (pv q) : Value) | 6 => ∃ y, u = .agg #[y, .bool false] | 7 => ∃ g, u = .slice (some ⟨g, 0, none⟩) 1 1 | 8 => ∃ A m c, u = .slice A m c | 9 => ∃ A m c, u = .slice A m c | _ => True) (fun vs => [.none, .box (blkOf (vs 7)) 79 #[lineV (vs 6), .bool false], .lines (vs 9) (rollFresh (d + 1) cols q), .box b7 31 (pv q), .box x 63 #[.int .i64 ↑cols, .slice (some ⟨gr, 0, none⟩) L.length c]]) (by kernel_rfl) (fun vs => by rfl) SZ.out ?_ ?_
        · refine SSteps.cons (fun a w' vs σ hS hl hs hk => ?_) ?_
          · have e11 : a.tmps.getD 11 undef = (vf : Value) := (sk_later hk 9 (by kernel_rfl) rfl rfl).trans rfl
            have f11 := gd e11
            exact ro_pure (v := vf) (wanted_none rfl) (by simp [execOp, Act.eval, e11, f11, go_sem]) (sp_same (by kernel_rfl) hl hs hS (show (vf : Value) = _ from rfl)) trivial
          refine SSteps.cons (fun a w' vs σ hS hl hs hk => ?_) ?_
          · have e0 : a.tmps.getD 0 undef = (.pointer (some ⟨x, 0, none⟩) : Value) := (sk_old hk 0 (by kernel_rfl)).trans rfl
            have f0 := gd e0
            exact ro_pure (v := .pointer (some ⟨x, 0, none⟩)) (wanted_none rfl) (by simp [execOp, Act.eval, e0, f0, go_sem]) (sp_same (by kernel_rfl) hl hs hS (show (.pointer (some ⟨x, 0, none⟩) : Value) = _ from rfl)) trivial
          refine SSteps.cons (fun a w' vs σ hS hl hs hk => ?_) ?_
          · have e46 : a.tmps.getD 46 undef = (.pointer (some ⟨x, 0, none⟩) : Value) := (sk_val hk 1 (by kernel_rfl) rfl rfl).trans ((hk.1 1 (by kernel_rfl)).1)
            have f46 := gd e46
            exact ro_pure (v := .pointer (some ⟨x, 0, none⟩)) (wanted_none rfl) (by simp [execOp, Act.eval, e46, f46, go_sem]) (sp_same (by kernel_rfl) hl hs hS (show (.pointer (some ⟨x, 0, none⟩) : Value) = _ from rfl)) trivial
          refine SSteps.cons (fun a w' vs σ hS hl hs hk => ?_) ?_
          · have e47 : a.tmps.getD 47 undef = (.pointer (some ⟨x, 0, none⟩) : Value) := (sk_val hk 2 (by kernel_rfl) rfl rfl).trans ((hk.1 2 (by kernel_rfl)).1)
            have f47 := gd e47
            exact ro_pure (v := .pointer (some ⟨x, 0, none⟩)) (wanted_none rfl) (by simp [execOp, Act.eval, e47, f47, go_sem]) (sp_same (by kernel_rfl) hl hs hS (show (.pointer (some ⟨x, 0, none⟩) : Value) = _ from rfl)) trivial
          refine SSteps.cons (fun a w' vs σ hS hl hs hk => ?_) ?_
          · have e48 : a.tmps.getD 48 undef = (.pointer (some ⟨x, 0, none⟩) : Value) := (sk_val hk 3 (by kernel_rfl) rfl rfl).trans ((hk.1 3 (by kernel_rfl)).1)
            have f48 := gd e48
            have hx := (hS.box (sg (hs 4 (by decide)))).cell
            exact ro_pure (v := .int .i64 ↑cols) (wanted_none rfl) (by simp [execOp, Act.eval, e48, f48, go_sem, hx]) (sp_same (by kernel_rfl) hl hs hS (show (.int .i64 ↑cols : Value) = _ from rfl)) trivial
          refine SSteps.cons (fun a w' vs σ hS hl hs hk => ?_) ?_
          · have e7 : a.tmps.getD 7 undef = (.pointer (some ⟨b7, 0, none⟩) : Value) := (sk_old hk 7 (by kernel_rfl)).trans rfl
            have f7 := gd e7
            have hx := (hS.box (sg (hs 3 (by decide)))).penAt
            exact ro_pure (v := .agg (pv q)) (wanted_none rfl) (by simp [execOp, Act.eval, e7, f7, go_sem, hx]) (sp_same (by kernel_rfl) hl hs hS (show (.agg (pv q) : Value) = _ from rfl)) trivial
          refine SSteps.cons (fun a w' vs σ hS hl hs hk => ?_) ?_
          · have e49 : a.tmps.getD 49 undef = (.int .i64 ↑cols : Value) := (sk_val hk 4 (by kernel_rfl) rfl rfl).trans ((hk.1 4 (by kernel_rfl)).1)
            have f49 := gd e49
            have e50 : a.tmps.getD 50 undef = (.agg (pv q) : Value) := (sk_val hk 5 (by kernel_rfl) rfl rfl).trans ((hk.1 5 (by kernel_rfl)).1)
            have f50 := gd e50
            have h0 : σ[0]? = some .none := hs 0 (by decide)
            exact ro_call (f := 78) (wanted_none rfl) rfl (by simp only [List.map_toArray, List.map_cons, List.map_nil, Act.eval, e49, e50] <;> rfl) (fun _ _ => by kernel_rfl) ((r14Blanks_any cols (by omega) q w0 w' _ hS).mono fun e w2 ⟨y, h1, h2⟩ => ⟨_, h1, sp_set 0 (.cells y (List.replicate cols (blank q))) (by kernel_rfl) (by simp) (by decide) hl hs (by rfl) (h2.place (sg h0)) ⟨y, rfl⟩, trivial⟩)
          refine SSteps.cons (fun a w' vs σ hS hl hs hk => ?_) ?_
          · have e51 : a.tmps.getD 51 undef = vs 6 := sk_val hk 6 (by kernel_rfl) rfl rfl
            have p51 : (fun u : Value => ∃ y, u = .agg #[y, .bool false]) (vs 6) := (hk.1 6 (by kernel_rfl)).1
            have f51 := gd e51
            obtain ⟨y, hx⟩ := p51
            have e9 := e51.trans hx
            have f9 := gd e9
            have h1 : σ[1]? = some .none := hs 1 (by decide)
            exact rs_run (wanted_none rfl) (exec_bsl rfl (by simp [Act.eval, e9, f9]) (run_bsl y false w')) (sp_set 1 (.box w'.heap.size 79 #[y, .bool false]) (by kernel_rfl) (by simp) (by decide) hl hs (by show Ob.box (blkOf (.slice (some ⟨w'.heap.size, 0, none⟩) 1 1)) 79 #[lineV (vs 6), .bool false] = _; rw [hx]; rfl) (hS.alloc1.place (sg h1)) ⟨_, rfl⟩)
          refine SSteps.cons (fun a w' vs σ hS hl hs hk => ?_) ?_
          · have e45 : a.tmps.getD 45 undef = (vf : Value) := (sk_val hk 0 (by kernel_rfl) rfl rfl).trans ((hk.1 0 (by kernel_rfl)).1)
            have f45 := gd e45
            have e52 : a.tmps.getD 52 undef = vs 7 := sk_val hk 7 (by kernel_rfl) rfl rfl
            have p52 : (fun u : Value => ∃ g, u = .slice (some ⟨g, 0, none⟩) 1 1) (vs 7) := (hk.1 7 (by kernel_rfl)).1
            have f52 := gd e52
            have h2 : σ[2]? = some (.lines vf (rollFresh d cols q)) := hs 2 (by decide)
            have h0 : σ[0]? = some (.cells (lineV (vs 6)) (List.replicate cols (blank q))) := hs 0 (by decide)
            have h1 : σ[1]? = some (.box (blkOf (vs 7)) 79 #[lineV (vs 6), .bool false]) := hs 1 (by decide)
            obtain ⟨g8, hg8⟩ := p52
            rw [hg8, show blkOf (.slice (some ⟨g8, 0, none⟩) 1 1) = g8 from rfl] at h1
            obtain ⟨v9, w9, hr, hS2, A9, c9, hv9⟩ := run_appL hS (k := 2) (j := 0) (ad := ⟨g8, 0, none⟩) (c := 1) (s := false) (sg h2) (sg h0) (by decide) (by rw [(hS.box (sg h1)).cell]; rfl) (by rw [add_at, (hS.box (sg h1)).cell]; rfl) (by simp [rollFresh]; omega) 35
            rw [show rollFresh d cols q ++ [((List.replicate cols (blank q)), false)] = (rollFresh (d + 1) cols q) from (List.replicate_succ' ..).symm] at hS2
            exact rs_run (wanted_none rfl) (exec_app rfl (by simp only [Act.eval]; exact e45) (by simp only [Act.eval]; exact e52.trans hg8) hr) (sp_set2 2 0 (.lines v9 (rollFresh (d + 1) cols q)) .none (by decide) (by kernel_rfl) (by simp) (by simp) (by decide) (by decide) hl hs (by rfl) (by rfl) hS2 ⟨A9, _, c9, hv9⟩)
          refine SSteps.cons (fun a w' vs σ hS hl hs hk => ?_) ?_
          · have e53 : a.tmps.getD 53 undef = vs 8 := sk_val hk 8 (by kernel_rfl) rfl rfl
            have p53 : (fun u : Value => ∃ A m c, u = .slice A m c) (vs 8) := (hk.1 8 (by kernel_rfl)).1
            have f53 := gd e53
            obtain ⟨A9, n9, c9, q9⟩ := p53
            have e9 := e53.trans q9
            have f9 := gd e9
            have h2 : σ[2]? = some (.lines (vs 8) (rollFresh (d + 1) cols q)) := hs 2 (by decide)
            rw [q9] at h2
            have hSS : Objs w0 w' ((σ ++ (.lines (.slice (some ⟨gr, 0, none⟩) L.length c) L :: .box b5 23 #[.int .i64 ↑top, .int .i64 ↑bot] :: os)).set 2 (.lines (.slice A9 n9 c9) (rollFresh (d + 1) cols q))) := by rw [set_self (sg h2)]; exact hS
            exact rs_run (v' := .slice A9 n9 c9) (w' := w') (wanted_none rfl) (by simp [execOp, Act.eval, e9, f9, go_sem]) (sp_set 2 (.lines (.slice A9 n9 c9) (rollFresh (d + 1) cols q)) (by kernel_rfl) (by simp) (by decide) hl hs (by rfl) hSS ⟨A9, n9, c9, rfl⟩)
          exact SSteps.nil
        · intro vs w' hS hv
          have q0 := (show vs 0 = (vf : Value) from hv 0 (by decide))
          have q1 := (show vs 1 = (.pointer (some ⟨x, 0, none⟩) : Value) from hv 1 (by decide))
          have q2 := (show vs 2 = (.pointer (some ⟨x, 0, none⟩) : Value) from hv 2 (by decide))
          have q3 := (show vs 3 = (.pointer (some ⟨x, 0, none⟩) : Value) from hv 3 (by decide))
          have q4 := (show vs 4 = (.int .i64 ↑cols : Value) from hv 4 (by decide))
          have q5 := (show vs 5 = (.agg (pv q) : Value) from hv 5 (by decide))
          have S2 := Lib.hid hS
          simp only [putL, Act.put, Nat.zero_add, Nat.reduceAdd, List.setIfInBounds_toArray, List.set_cons_succ, List.set_cons_zero, q0, q1, q2, q3, q4, q5]
          clear hS hv q0 q1 q2 q3 q4 q5
          go_wp2_with fail
          go_roundw
          case rel => exact ⟨d + 1, vs 9, by omega, rfl, by go_num, (S2.out.del 0).del 0⟩
          case measure => simp [intOf]; omega
      obtain rfl : k = d := by omega
      have S3 := Lib.hid (ord_b S2.out)
      obtain ⟨hxx, hfx, hzx⟩ := (S3.out.box (k := 3) rfl).facts
      clear hx5 hf5 hz5
      obtain ⟨hx5, hf5, hz5⟩ := (S3.out.box (k := 4) rfl).facts
      clear S2
      go_wp2_with fail
      refine wp_region_below (by kernel_rfl) (by kernel_rfl) ?_
      repeat (go_big_quiet_step (fail))
      refine wpQuiet_nil ?_
      intro w2 hb2
      have SZ := Lib.hid (S3.out.bel hb2).pad.pad
      clear hxx hfx hzx hx5 hf5 hz5 S3 hb2
      simp only [HBI.out]
      have hkz : (0 : Int) ≤ (k : Int) := by omega
      have hkz2 : (k : Int) ≤ (k : Int) := by omega
      have HW0 := Lib.hid (show IntKind.i64.wrap 0 = 0 from IntWalk.i64_in _ (by omega))
      have hkz3 : k ≤ c - top := by omega
      go_wp2_with fail
      refine wp_region_stage (w0 := w0) (os := (.lines vf (rollFresh k cols q) :: .box b7 31 (pv q) :: .box x 63 #[.int .i64 ↑cols, .slice (some ⟨gr, 0, none⟩) L.length c] :: .box b5 23 #[.int .i64 ↑top, .int .i64 ↑bot] :: os)) (by kernel_rfl) (by kernel_rfl) (by kernel_rfl) [(0, 5, [5], fun vs => .lines (vs 5) ((L.drop top).take k)), (1, 11, [11], fun vs => .lines (vs 11) ([] : List Ln)), (0, 12, [12], fun vs => .lines (vs 12) ((L.drop top).take k)), (1, 13, [13], fun vs => .lines (vs 13) ([] : List Ln))] [[], [], [], [], [], [0, 2], [], [], [], [], [], [1, 2], [0], [1]] [.none, .none, .lines (.slice (some ⟨gr, 0, none⟩) L.length c) L] (fun i u => match i with | 0 => u = (.slice (some ⟨gr, top * 2, none⟩) k (c - top) : Value) | 1 => u = (.int .i64 ↑k : Value) | 2 => u = (.int .i64 ↑k : Value) | 3 => u = (.int .i64 0 : Value) | 4 => u = (.slice (some ⟨gr, top * 2, none⟩) k (c - top) : Value) | 5 => ∃ A m c, u = .slice A m c | 6 => u = (.slice (some ⟨gr, top * 2, none⟩) k (c - top) : Value) | 7 => u = (.int .i64 ↑k : Value) | 8 => u = (.int .i64 ↑k : Value) | 9 => u = (.int .i64 0 : Value) | 10 => u = (.slice (some ⟨gr, top * 2, none⟩) 0 (c - top) : Value) | 11 => ∃ A m c, u = .slice A m c | 12 => ∃ A m c, u = .slice A m c | 13 => ∃ A m c, u = .slice A m c | _ => True) (fun vs => [.lines (vs 12) ((L.drop top).take k), .lines (vs 13) ([] : List Ln), .lines (.slice (some ⟨gr, 0, none⟩) L.length c) L]) (by kernel_rfl) (fun vs => by rfl) SZ.out ?_ ?_
      · refine SSteps.cons (fun a w' vs σ hS hl hs hk => ?_) ?_
        · have e13 : a.tmps.getD 13 undef = (.slice (some ⟨gr, top * 2, none⟩) k (c - top) : Value) := (sk_old hk 13 (by kernel_rfl)).trans rfl
          have f13 := gd e13
          exact ro_pure (v := .slice (some ⟨gr, top * 2, none⟩) k (c - top)) (wanted_none rfl) (by simp [execOp, Act.eval, e13, f13, go_sem]) (sp_same (by kernel_rfl) hl hs hS (show (.slice (some ⟨gr, top * 2, none⟩) k (c - top) : Value) = _ from rfl)) trivial
        refine SSteps.cons (fun a w' vs σ hS hl hs hk => ?_) ?_
        · have e9 : a.tmps.getD 9 undef = (.int .i64 ↑k : Value) := (sk_old hk 9 (by kernel_rfl)).trans rfl
          have f9 := gd e9
          exact ro_pure (v := .int .i64 ↑k) (wanted_none rfl) (by simp [execOp, Act.eval, e9, f9, go_sem]) (sp_same (by kernel_rfl) hl hs hS (show (.int .i64 ↑k : Value) = _ from rfl)) trivial
        refine SSteps.cons (fun a w' vs σ hS hl hs hk => ?_) ?_
        · have e10 : a.tmps.getD 10 undef = (.int .i64 ↑k : Value) := (sk_old hk 10 (by kernel_rfl)).trans rfl
          have f10 := gd e10
          exact ro_pure (v := .int .i64 ↑k) (wanted_none rfl) (by simp [execOp, Act.eval, e10, f10, go_sem]) (sp_same (by kernel_rfl) hl hs hS (show (.int .i64 ↑k : Value) = _ from rfl)) trivial
        refine SSteps.cons (fun a w' vs σ hS hl hs hk => ?_) ?_
        · have e75 : a.tmps.getD 75 undef = (.int .i64 ↑k : Value) := (sk_val hk 1 (by kernel_rfl) rfl rfl).trans ((hk.1 1 (by kernel_rfl)).1)
          have f75 := gd e75
          have e76 : a.tmps.getD 76 undef = (.int .i64 ↑k : Value) := (sk_val hk 2 (by kernel_rfl) rfl rfl).trans ((hk.1 2 (by kernel_rfl)).1)
          have f76 := gd e76
          exact ro_pure (v := .int .i64 0) (wanted_none rfl) (by simp [execOp, Act.eval, e75, f75, e76, f76, go_sem, HW0.out]) (sp_same (by kernel_rfl) hl hs hS (show (.int .i64 0 : Value) = _ from rfl)) trivial
        refine SSteps.cons (fun a w' vs σ hS hl hs hk => ?_) ?_
        · have e74 : a.tmps.getD 74 undef = (.slice (some ⟨gr, top * 2, none⟩) k (c - top) : Value) := (sk_val hk 0 (by kernel_rfl) rfl rfl).trans ((hk.1 0 (by kernel_rfl)).1)
          have f74 := gd e74
          have e77 : a.tmps.getD 77 undef = (.int .i64 0 : Value) := (sk_val hk 3 (by kernel_rfl) rfl rfl).trans ((hk.1 3 (by kernel_rfl)).1)
          have f77 := gd e77
          exact ro_pure (v := .slice (some ⟨gr, top * 2, none⟩) k (c - top)) (wanted_none rfl) (by simp [execOp, Act.eval, e74, f74, e77, f77, go_sem, hkz, hkz2, hkz3]) (sp_same (by kernel_rfl) hl hs hS (show (.slice (some ⟨gr, top * 2, none⟩) k (c - top) : Value) = _ from rfl)) trivial
        refine SSteps.cons (fun a w' vs σ hS hl hs hk => ?_) ?_
        · have e78 : a.tmps.getD 78 undef = (.slice (some ⟨gr, top * 2, none⟩) k (c - top) : Value) := (sk_val hk 4 (by kernel_rfl) rfl rfl).trans ((hk.1 4 (by kernel_rfl)).1)
          have f78 := gd e78
          have hn : σ[0]? = some .none := hs 0 (by decide)
          have h2 : σ[2]? = some (.lines (.slice (some ⟨gr, 0, none⟩) L.length c) L) := hs 2 (by decide)
          have hrl := (hS.linesRd' (sg h2)).2.2
          exact ro_call (f := 85) (wanted_none rfl) rfl (by simp only [List.map_toArray, List.map_cons, List.map_nil, Act.eval, e78] <;> rfl) (fun _ _ => by kernel_rfl) ((copies_at (L := ((L.drop top).take k)) (by simp; omega) (hrl.part0 (by omega) (by omega)) (by simp; omega) (fun l hl => HMILL.out l (List.mem_of_mem_drop (List.mem_of_mem_take hl)))).mono fun e w2 ⟨y, h1, h2⟩ => ⟨_, h1, sp_set 0 (.lines y ((L.drop top).take k)) (by kernel_rfl) (by simp) (by decide) hl hs (by rfl) ((hS.nest h2).place (sg hn)) (by obtain ⟨A, c, e, -⟩ := h2.linesRd (k := 0) rfl; exact ⟨A, _, c, e⟩), trivial⟩)
        refine SSteps.cons (fun a w' vs σ hS hl hs hk => ?_) ?_
        · have e13 : a.tmps.getD 13 undef = (.slice (some ⟨gr, top * 2, none⟩) k (c - top) : Value) := (sk_old hk 13 (by kernel_rfl)).trans rfl
          have f13 := gd e13
          exact ro_pure (v := .slice (some ⟨gr, top * 2, none⟩) k (c - top)) (wanted_none rfl) (by simp [execOp, Act.eval, e13, f13, go_sem]) (sp_same (by kernel_rfl) hl hs hS (show (.slice (some ⟨gr, top * 2, none⟩) k (c - top) : Value) = _ from rfl)) trivial
        refine SSteps.cons (fun a w' vs σ hS hl hs hk => ?_) ?_
        · have e9 : a.tmps.getD 9 undef = (.int .i64 ↑k : Value) := (sk_old hk 9 (by kernel_rfl)).trans rfl
          have f9 := gd e9
          exact ro_pure (v := .int .i64 ↑k) (wanted_none rfl) (by simp [execOp, Act.eval, e9, f9, go_sem]) (sp_same (by kernel_rfl) hl hs hS (show (.int .i64 ↑k : Value) = _ from rfl)) trivial
        refine SSteps.cons (fun a w' vs σ hS hl hs hk => ?_) ?_
        · have e10 : a.tmps.getD 10 undef = (.int .i64 ↑k : Value) := (sk_old hk 10 (by kernel_rfl)).trans rfl
          have f10 := gd e10
          exact ro_pure (v := .int .i64 ↑k) (wanted_none rfl) (by simp [execOp, Act.eval, e10, f10, go_sem]) (sp_same (by kernel_rfl) hl hs hS (show (.int .i64 ↑k : Value) = _ from rfl)) trivial
        refine SSteps.cons (fun a w' vs σ hS hl hs hk => ?_) ?_
        · have e81 : a.tmps.getD 81 undef = (.int .i64 ↑k : Value) := (sk_val hk 7 (by kernel_rfl) rfl rfl).trans ((hk.1 7 (by kernel_rfl)).1)
          have f81 := gd e81
          have e82 : a.tmps.getD 82 undef = (.int .i64 ↑k : Value) := (sk_val hk 8 (by kernel_rfl) rfl rfl).trans ((hk.1 8 (by kernel_rfl)).1)
          have f82 := gd e82
          exact ro_pure (v := .int .i64 0) (wanted_none rfl) (by simp [execOp, Act.eval, e81, f81, e82, f82, go_sem, HW0.out]) (sp_same (by kernel_rfl) hl hs hS (show (.int .i64 0 : Value) = _ from rfl)) trivial
        refine SSteps.cons (fun a w' vs σ hS hl hs hk => ?_) ?_
        · have e80 : a.tmps.getD 80 undef = (.slice (some ⟨gr, top * 2, none⟩) k (c - top) : Value) := (sk_val hk 6 (by kernel_rfl) rfl rfl).trans ((hk.1 6 (by kernel_rfl)).1)
          have f80 := gd e80
          have e83 : a.tmps.getD 83 undef = (.int .i64 0 : Value) := (sk_val hk 9 (by kernel_rfl) rfl rfl).trans ((hk.1 9 (by kernel_rfl)).1)
          have f83 := gd e83
          exact ro_pure (v := .slice (some ⟨gr, top * 2, none⟩) 0 (c - top)) (wanted_none rfl) (by simp [execOp, Act.eval, e80, f80, e83, f83, go_sem, hkz, hkz2, hkz3]) (sp_same (by kernel_rfl) hl hs hS (show (.slice (some ⟨gr, top * 2, none⟩) 0 (c - top) : Value) = _ from rfl)) trivial
        refine SSteps.cons (fun a w' vs σ hS hl hs hk => ?_) ?_
        · have e84 : a.tmps.getD 84 undef = (.slice (some ⟨gr, top * 2, none⟩) 0 (c - top) : Value) := (sk_val hk 10 (by kernel_rfl) rfl rfl).trans ((hk.1 10 (by kernel_rfl)).1)
          have f84 := gd e84
          have hn : σ[1]? = some .none := hs 1 (by decide)
          have h2 : σ[2]? = some (.lines (.slice (some ⟨gr, 0, none⟩) L.length c) L) := hs 2 (by decide)
          have hrl := (hS.linesRd' (sg h2)).2.2
          exact ro_call (f := 85) (wanted_none rfl) rfl (by simp only [List.map_toArray, List.map_cons, List.map_nil, Act.eval, e84] <;> rfl) (fun _ _ => by kernel_rfl) ((copies_at (L := ([] : List Ln)) rfl (RdL.empty _ _ _) (by simp) (fun l hl => by simp at hl)).mono fun e w2 ⟨y, h1, h2⟩ => ⟨_, h1, sp_set 1 (.lines y ([] : List Ln)) (by kernel_rfl) (by simp) (by decide) hl hs (by rfl) ((hS.nest h2).place (sg hn)) (by obtain ⟨A, c, e, -⟩ := h2.linesRd (k := 0) rfl; exact ⟨A, _, c, e⟩), trivial⟩)
        refine SSteps.cons (fun a w' vs σ hS hl hs hk => ?_) ?_
        · have e79 : a.tmps.getD 79 undef = vs 5 := sk_val hk 5 (by kernel_rfl) rfl rfl
          have p79 : (fun u : Value => ∃ A m c, u = .slice A m c) (vs 5) := (hk.1 5 (by kernel_rfl)).1
          have f79 := gd e79
          obtain ⟨A9, n9, c9, q9⟩ := p79
          have e9 := e79.trans q9
          have f9 := gd e9
          have h2 : σ[0]? = some (.lines (vs 5) ((L.drop top).take k)) := hs 0 (by decide)
          rw [q9] at h2
          have hSS : Objs w0 w' ((σ ++ (.lines vf (rollFresh k cols q) :: .box b7 31 (pv q) :: .box x 63 #[.int .i64 ↑cols, .slice (some ⟨gr, 0, none⟩) L.length c] :: .box b5 23 #[.int .i64 ↑top, .int .i64 ↑bot] :: os)).set 0 (.lines (.slice A9 n9 c9) ((L.drop top).take k))) := by rw [set_self (sg h2)]; exact hS
          exact rs_run (v' := .slice A9 n9 c9) (w' := w') (wanted_none rfl) (by simp [execOp, Act.eval, e9, f9, go_sem]) (sp_set 0 (.lines (.slice A9 n9 c9) ((L.drop top).take k)) (by kernel_rfl) (by simp) (by decide) hl hs (by rfl) hSS ⟨A9, n9, c9, rfl⟩)
        refine SSteps.cons (fun a w' vs σ hS hl hs hk => ?_) ?_
        · have e85 : a.tmps.getD 85 undef = vs 11 := sk_val hk 11 (by kernel_rfl) rfl rfl
          have p85 : (fun u : Value => ∃ A m c, u = .slice A m c) (vs 11) := (hk.1 11 (by kernel_rfl)).1
          have f85 := gd e85
          obtain ⟨A9, n9, c9, q9⟩ := p85
          have e9 := e85.trans q9
          have f9 := gd e9
          have h2 : σ[1]? = some (.lines (vs 11) ([] : List Ln)) := hs 1 (by decide)
          rw [q9] at h2
          have hSS : Objs w0 w' ((σ ++ (.lines vf (rollFresh k cols q) :: .box b7 31 (pv q) :: .box x 63 #[.int .i64 ↑cols, .slice (some ⟨gr, 0, none⟩) L.length c] :: .box b5 23 #[.int .i64 ↑top, .int .i64 ↑bot] :: os)).set 1 (.lines (.slice A9 n9 c9) ([] : List Ln))) := by rw [set_self (sg h2)]; exact hS
          exact rs_run (v' := .slice A9 n9 c9) (w' := w') (wanted_none rfl) (by simp [execOp, Act.eval, e9, f9, go_sem]) (sp_set 1 (.lines (.slice A9 n9 c9) ([] : List Ln)) (by kernel_rfl) (by simp) (by decide) hl hs (by rfl) hSS ⟨A9, n9, c9, rfl⟩)
        exact SSteps.nil
      · intro vs w' hS hv
        have q0 := (show vs 0 = (.slice (some ⟨gr, top * 2, none⟩) k (c - top) : Value) from hv 0 (by decide))
        have q1 := (show vs 1 = (.int .i64 ↑k : Value) from hv 1 (by decide))
        have q2 := (show vs 2 = (.int .i64 ↑k : Value) from hv 2 (by decide))
        have q3 := (show vs 3 = (.int .i64 0 : Value) from hv 3 (by decide))
        have q4 := (show vs 4 = (.slice (some ⟨gr, top * 2, none⟩) k (c - top) : Value) from hv 4 (by decide))
        have q6 := (show vs 6 = (.slice (some ⟨gr, top * 2, none⟩) k (c - top) : Value) from hv 6 (by decide))
        have q7 := (show vs 7 = (.int .i64 ↑k : Value) from hv 7 (by decide))
        have q8 := (show vs 8 = (.int .i64 ↑k : Value) from hv 8 (by decide))
        have q9 := (show vs 9 = (.int .i64 0 : Value) from hv 9 (by decide))
        have q10 := (show vs 10 = (.slice (some ⟨gr, top * 2, none⟩) 0 (c - top) : Value) from hv 10 (by decide))
        obtain ⟨Ag, mg, cg, qg⟩ := (show ∃ A m c, vs 12 = .slice A m c from hv 12 (by decide))
        obtain ⟨As, ms, cs, qs⟩ := (show ∃ A m c, vs 13 = .slice A m c from hv 13 (by decide))
        rw [qg, qs] at hS
        obtain ⟨A1, n1, c1, q1⟩ := (show ∃ A m c, vs 5 = .slice A m c from hv 5 (by decide))
        obtain ⟨A2, n2, c2, q2⟩ := (show ∃ A m c, vs 11 = .slice A m c from hv 11 (by decide))
        have S2 := Lib.hid hS
        simp only [putL, Act.put, Nat.zero_add, Nat.reduceAdd, List.setIfInBounds_toArray, List.set_cons_succ, List.set_cons_zero, q0, q1, q2, q3, q4, q6, q7, q8, q9, q10]
        clear hS hv q0 q1 q2 q3 q4 q6 q7 q8 q9 q10
        simp only [qg, qs, q1, q2]
        have hGl0 : ((L.drop top).take k).length = k := by simp; omega
        have emg : k = mg := ((show Objs w0 w' (.lines (.slice Ag mg cg) ((L.drop top).take k) :: _) from S2.out).linesRd' (k := 0) rfl |>.1.trans hGl0).symm
        have ems : ms = 0 := (show Objs w0 w' (_ :: .lines (.slice As ms cs) ([] : List Ln) :: _) from S2.out).linesRd' (k := 1) rfl |>.1
        subst emg ems
        obtain ⟨G, hG⟩ : ∃ G, G = (L.drop top).take k := ⟨_, rfl⟩
        have hS2 := (show Objs w0 w' (.lines (.slice Ag k cg) G :: .lines (.slice As 0 cs) [] :: .lines (.slice (some ⟨gr, 0, none⟩) L.length c) L :: .lines vf (rollFresh k cols q) :: .box b7 31 (pv q) :: .box x 63 #[.int .i64 cols, .slice (some ⟨gr, 0, none⟩) L.length c] :: .box b5 23 #[.int .i64 top, .int .i64 bot] :: os) from by rw [hG]; exact S2.out)
        have HGONE := Lib.hid (show G = rollGone top bot n L by rw [hG]; have := @rgone_neg L top bot k k n hn HMANY.out HKK.out hkm; rw [Nat.sub_self, Nat.add_zero] at this; exact this)
        obtain ⟨T, Ts, Tf, ⟨hT, hTs, hTf⟩, hos, hof, hO⟩ := roll_open hS2
        have hSl : Ts.length = 0 := by rw [← lnP_length, hTs]; rfl
        have hFl : Tf.length = k := by rw [← lnP_length, hTf]; simp [rollFresh]
        have hTl : T.length = L.length := by rw [← lnP_length, hT]
        obtain ⟨Af, cf, ef, hcf, -, -, hgf⟩ := hO.headsForm (k := 2) rfl
        rw [hdP_length, hFl] at ef hcf hgf
        obtain ⟨gf, rfl, hgfz, -, -⟩ := hgf hk0
        subst ef
        clear hgf
        have HLEFT := Lib.hid (rleft_neg (T := T) (Ts := Ts) (Tf := Tf) hn HMANY.out htb HKK.out hkm hT (by rw [hTs, Nat.sub_self]; simp [lastHard, softMod]) hTf)
        obtain ⟨vg, wg, hrk, hOk, Ak, mk, ck, hvk⟩ := run_appK hO (k := 1) rfl (ad := ⟨gf, 0, none⟩) (m := k) (c := cf) (ds := hdP Tf) (by rw [hdP_length, hFl]) hk0 (fun i y hy => by have := hO.headsSub (k := 2) (a := 0) (m := k) rfl (by rw [hdP_length]; omega) i y (by rw [List.drop_zero, List.take_of_length_le (by rw [hdP_length]; omega)]; exact hy); rwa [Nat.zero_mul] at this) hof (by rw [hdP_length, hdP_length]; omega) 35
        have HRK := Lib.hid hrk
        obtain ⟨va, wa, hra, hSa, Aa, ca, hva⟩ := run_appE hOk (k := 2) (j := 1) (A := As) (c := cs) rfl rfl (by rw [hdP_length]; omega) 35
        rw [hdP_length, hFl] at hva
        subst hva
        have hTs0 : Ts = [] := List.eq_nil_of_length_eq_zero hSl
        obtain ⟨All, hAll⟩ : ∃ All, All = Tf ++ Ts := ⟨_, rfl⟩
        have hAl : All.length = k := by rw [hAll, List.length_append, hFl, hSl]; omega
        have hAT : All = Tf := by rw [hAll, hTs0, List.append_nil]
        have hPP : (piP Tf ++ piP Ts).Perm (piP All) := by rw [hAll, piP_append]
        have HSLI := Lib.hid (show ∀ y ∈ All, ∃ A n c, y.1 = .slice A n c from fun y hy => (hO.pileForm (k := 5) rfl) (y.1, y.2.1) (List.mem_append.2 (.inr (hPP.mem_iff.2 (List.mem_map.2 ⟨y, hy, rfl⟩)))))
        rw [← hAll] at HLEFT
        clear hAll
        have hSb := (show Objs w0 wa (.heads (.slice (some ⟨gr, 0, none⟩) L.length c) (hdP T) :: .heads (.slice As 0 cs) (hdP Ts) :: .heads (.slice Aa k ca) (hdP All) :: .box x 63 #[.int .i64 cols, .slice (some ⟨gr, 0, none⟩) L.length c] :: .box b5 23 #[.int .i64 top, .int .i64 bot] :: .pile (piP T ++ (piP Tf ++ piP Ts)) :: .lines (.slice Ag k cg) G :: .box b7 31 (pv q) :: os) from by rw [hAT]; exact hSa).del 1
        have HRA := Lib.hid hra
        obtain ⟨A8, c8, e8, -, -, -, hg8⟩ := (show Objs w0 wa (.heads (.slice (some ⟨gr, 0, none⟩) L.length c) (hdP T) :: .heads (.slice Aa k ca) (hdP All) :: _) from hSb).headsForm (k := 1) rfl
        simp only [Value.slice.injEq] at e8
        obtain ⟨rfl, -, rfl⟩ := e8
        obtain ⟨ga, rfl, -, -, -⟩ := hg8 (by rw [hdP_length]; omega)
        have HPERM := Lib.hid (@rperm T Ts Tf top k All hPP)
        obtain ⟨P, hP⟩ : ∃ P, P = piP T ++ (piP Tf ++ piP Ts) := ⟨_, rfl⟩
        rw [← hP] at HPERM hSb
        obtain ⟨T1, hT1⟩ : ∃ T1, T1 = T.take top := ⟨_, rfl⟩
        obtain ⟨Rr, hRr⟩ : ∃ Rr, Rr = T.drop top := ⟨_, rfl⟩
        have hTT : hdP T = hdP T1 ++ (hdP (All.take 0) ++ hdP (Rr.drop 0)) := by rw [hT1, hRr]; simp [hdP]
        have HT1 := Lib.hid (show T1.length = top by rw [hT1]; simp; omega)
        have HRL := Lib.hid (show Rr.length = L.length - top by rw [hRr]; simp; omega)
        rw [← hT1, ← hRr] at HPERM
        rw [← hT1, ← hRr] at HLEFT
        rw [hTT] at hSb
        have SB := Lib.hid hSb
        have HAL := Lib.hid hAl
        clear hSa hSb hra hrk hOk hO hg8 hP hT1 hRr hTT hPP hS2 hT hTs hTf hos hof hSl hFl hTl hG hcf hGl0 hAl SZ
        go_upto_region 21 with (at_builtin; refine wpList_app _ _ (wanted_none rfl) rfl rfl rfl HRK.out ?_)
        go_wp2_with (at_builtin; refine wpList_app _ _ (wanted_none rfl) rfl rfl rfl HRA.out ?_)
        go_loopw [17] (fun vi wr => ∃ d : Nat, d ≤ k ∧ vi = .int .i64 d ∧ Objs w0 wr (.heads (.slice (some ⟨gr, 0, none⟩) L.length c) (hdP T1 ++ (hdP (All.take d) ++ hdP (Rr.drop d))) :: .heads (.slice (some ⟨ga, 0, none⟩) k ca) (hdP All) :: .box x 63 #[.int .i64 cols, .slice (some ⟨gr, 0, none⟩) L.length c] :: .box b5 23 #[.int .i64 top, .int .i64 bot] :: .pile P :: .lines (.slice Ag k cg) G :: .box b7 31 (pv q) :: os)) (fun vi _ => k - (intOf vi).toNat)
        case atStart => exact ⟨0, by omega, rfl, SB.out⟩
        case round =>
          obtain ⟨d, hdm, rfl, hS⟩ := hrel
          have S8 := Lib.hid hS
          clear hS SB
          by_cases hlt : d < k
          case neg =>
            have hX := S8.out
            have hd : d = k := by omega
            rw [hd, List.take_of_length_le (by rw [HAL.out]; exact Nat.le_refl _), ← hdP_append, ← hdP_append] at hX
            have hX2 := roll_shut HPERM.out hX
            obtain ⟨L1, hL1⟩ : ∃ L1, L1 = lnP (T1 ++ (All ++ Rr.drop k)) := ⟨_, rfl⟩
            have HLF := HLEFT
            rw [← hL1] at hX2 HLF
            have hL1l : L1.length = L.length := by rw [hL1, lnP_length]; simp only [List.length_append, List.length_drop]; have := HT1.out; have := HRL.out; have := HAL.out; omega
            have SX := Lib.hid hX2
            obtain ⟨hx5, hf5, hz5⟩ := (hX2.box (k := 2) rfl).facts
            clear hX hX2 hd hL1 S8
            by_cases ht0 : top = 0
            · have HT0 := Lib.hid (show topHard top L1 = L1 by unfold topHard; rw [if_neg (by omega)])
              have htg : ¬ (0 : Int) < (top : Int) := by omega
              have SF := Lib.hid (fin_roll2 SX.out)
              clear ht0
              go_wp2_with fail
              go_ret
              exact ⟨Ag, k, cg, rfl, by rw [← HGONE.out, ← HLF.out, HT0.out]; exact SF.out⟩
            · have htg : (0 : Int) < (top : Int) := by omega
              obtain ⟨l9, hlt1⟩ := get_of (show top - 1 < L1.length by omega)
              have HT0 := Lib.hid (show L1.set (top - 1) (l9.1, false) = topHard top L1 by unfold topHard; rw [if_pos (by omega), softMod_some hlt1])
              have HWT := Lib.hid (show IntKind.i64.wrap ((top : Int) - 1) = (top : Int) - 1 from IntWalk.i64_in _ (by omega))
              have htz : (0 : Int) ≤ (top : Int) - 1 := by omega
              have htz2 : (top : Int) - 1 < (L.length : Int) := by omega
              have htz3 : ¬ (top : Int) < 1 := by omega
              have htn : ((top : Int) - 1).toNat = top - 1 := by omega
              have SY := SX
              go_upto_region 27 with (fail)
              refine wp_region_stage (w0 := w0) (os := (.lines (.slice Ag k cg) G :: .box b7 31 (pv q) :: os)) (by kernel_rfl) (by kernel_rfl) (by kernel_rfl) [(0, 9, [], fun vs => .lines (.slice (some ⟨gr, 0, none⟩) L.length c) (L1.set (top - 1) (l9.1, false)))] [[], [], [], [1], [], [2], [], [], [], [0]] [.lines (.slice (some ⟨gr, 0, none⟩) L.length c) L1, .box x 63 #[.int .i64 ↑cols, .slice (some ⟨gr, 0, none⟩) L.length c], .box b5 23 #[.int .i64 ↑top, .int .i64 ↑bot]] (fun i u => match i with | 0 => u = (.pointer (some ⟨x, 0, none⟩) : Value) | 1 => u = (.pointer (some ⟨x, 0, none⟩) : Value) | 2 => u = (.pointer (some ⟨x, 1, none⟩) : Value) | 3 => u = (.slice (some ⟨gr, 0, none⟩) L.length c : Value) | 4 => u = (.pointer (some ⟨b5, 0, none⟩) : Value) | 5 => u = (.int .i64 ↑top : Value) | 6 => u = (.int .i64 (↑top - 1) : Value) | 7 => u = (.pointer (some ⟨gr, (top - 1) * 2, none⟩) : Value) | 8 => u = (.pointer (some ⟨gr, (top - 1) * 2 + 1, none⟩) : Value) | 9 => True | _ => True) (fun vs => [.lines (.slice (some ⟨gr, 0, none⟩) L.length c) (L1.set (top - 1) (l9.1, false)), .box x 63 #[.int .i64 ↑cols, .slice (some ⟨gr, 0, none⟩) L.length c], .box b5 23 #[.int .i64 ↑top, .int .i64 ↑bot]]) (by kernel_rfl) (fun vs => by rfl) SY.out ?_ ?_
              · refine SSteps.cons (fun a w' vs σ hS hl hs hk => ?_) ?_
                · have e0 : a.tmps.getD 0 undef = (.pointer (some ⟨x, 0, none⟩) : Value) := (sk_old hk 0 (by kernel_rfl)).trans rfl
                  have f0 := gd e0
                  exact ro_pure (v := .pointer (some ⟨x, 0, none⟩)) (wanted_none rfl) (by simp [execOp, Act.eval, e0, f0, go_sem]) (sp_same (by kernel_rfl) hl hs hS (show (.pointer (some ⟨x, 0, none⟩) : Value) = _ from rfl)) trivial
                refine SSteps.cons (fun a w' vs σ hS hl hs hk => ?_) ?_
                · have e124 : a.tmps.getD 124 undef = (.pointer (some ⟨x, 0, none⟩) : Value) := (sk_val hk 0 (by kernel_rfl) rfl rfl).trans ((hk.1 0 (by kernel_rfl)).1)
                  have f124 := gd e124
                  exact ro_pure (v := .pointer (some ⟨x, 0, none⟩)) (wanted_none rfl) (by simp [execOp, Act.eval, e124, f124, go_sem]) (sp_same (by kernel_rfl) hl hs hS (show (.pointer (some ⟨x, 0, none⟩) : Value) = _ from rfl)) trivial
                refine SSteps.cons (fun a w' vs σ hS hl hs hk => ?_) ?_
                · have e125 : a.tmps.getD 125 undef = (.pointer (some ⟨x, 0, none⟩) : Value) := (sk_val hk 1 (by kernel_rfl) rfl rfl).trans ((hk.1 1 (by kernel_rfl)).1)
                  have f125 := gd e125
                  exact ro_pure (v := .pointer (some ⟨x, 1, none⟩)) (wanted_none rfl) (by simp [execOp, Act.eval, e125, f125, go_sem]) (sp_same (by kernel_rfl) hl hs hS (show (.pointer (some ⟨x, 1, none⟩) : Value) = _ from rfl)) trivial
                refine SSteps.cons (fun a w' vs σ hS hl hs hk => ?_) ?_
                · have e126 : a.tmps.getD 126 undef = (.pointer (some ⟨x, 1, none⟩) : Value) := (sk_val hk 2 (by kernel_rfl) rfl rfl).trans ((hk.1 2 (by kernel_rfl)).1)
                  have f126 := gd e126
                  have hx := (hS.box (sg (hs 1 (by decide)))).cell
                  exact ro_pure (v := .slice (some ⟨gr, 0, none⟩) L.length c) (wanted_none rfl) (by simp [execOp, Act.eval, e126, f126, go_sem, hx]) (sp_same (by kernel_rfl) hl hs hS (show (.slice (some ⟨gr, 0, none⟩) L.length c : Value) = _ from rfl)) trivial
                refine SSteps.cons (fun a w' vs σ hS hl hs hk => ?_) ?_
                · have e5 : a.tmps.getD 5 undef = (.pointer (some ⟨b5, 0, none⟩) : Value) := (sk_old hk 5 (by kernel_rfl)).trans rfl
                  have f5 := gd e5
                  exact ro_pure (v := .pointer (some ⟨b5, 0, none⟩)) (wanted_none rfl) (by simp [execOp, Act.eval, e5, f5, go_sem]) (sp_same (by kernel_rfl) hl hs hS (show (.pointer (some ⟨b5, 0, none⟩) : Value) = _ from rfl)) trivial
                refine SSteps.cons (fun a w' vs σ hS hl hs hk => ?_) ?_
                · have e128 : a.tmps.getD 128 undef = (.pointer (some ⟨b5, 0, none⟩) : Value) := (sk_val hk 4 (by kernel_rfl) rfl rfl).trans ((hk.1 4 (by kernel_rfl)).1)
                  have f128 := gd e128
                  have hx := (hS.box (sg (hs 2 (by decide)))).cell
                  exact ro_pure (v := .int .i64 ↑top) (wanted_none rfl) (by simp [execOp, Act.eval, e128, f128, go_sem, hx]) (sp_same (by kernel_rfl) hl hs hS (show (.int .i64 ↑top : Value) = _ from rfl)) trivial
                refine SSteps.cons (fun a w' vs σ hS hl hs hk => ?_) ?_
                · have e129 : a.tmps.getD 129 undef = (.int .i64 ↑top : Value) := (sk_val hk 5 (by kernel_rfl) rfl rfl).trans ((hk.1 5 (by kernel_rfl)).1)
                  have f129 := gd e129
                  exact ro_pure (v := .int .i64 (↑top - 1)) (wanted_none rfl) (by simp [execOp, Act.eval, e129, f129, go_sem, HWT.out]) (sp_same (by kernel_rfl) hl hs hS (show (.int .i64 (↑top - 1) : Value) = _ from rfl)) trivial
                refine SSteps.cons (fun a w' vs σ hS hl hs hk => ?_) ?_
                · have e127 : a.tmps.getD 127 undef = (.slice (some ⟨gr, 0, none⟩) L.length c : Value) := (sk_val hk 3 (by kernel_rfl) rfl rfl).trans ((hk.1 3 (by kernel_rfl)).1)
                  have f127 := gd e127
                  have e130 : a.tmps.getD 130 undef = (.int .i64 (↑top - 1) : Value) := (sk_val hk 6 (by kernel_rfl) rfl rfl).trans ((hk.1 6 (by kernel_rfl)).1)
                  have f130 := gd e130
                  exact ro_pure (v := .pointer (some ⟨gr, (top - 1) * 2, none⟩)) (wanted_none rfl) (by simp [execOp, Act.eval, e127, f127, e130, f130, go_sem, htz, htz2, htn, htz3]) (sp_same (by kernel_rfl) hl hs hS (show (.pointer (some ⟨gr, (top - 1) * 2, none⟩) : Value) = _ from rfl)) trivial
                refine SSteps.cons (fun a w' vs σ hS hl hs hk => ?_) ?_
                · have e131 : a.tmps.getD 131 undef = (.pointer (some ⟨gr, (top - 1) * 2, none⟩) : Value) := (sk_val hk 7 (by kernel_rfl) rfl rfl).trans ((hk.1 7 (by kernel_rfl)).1)
                  have f131 := gd e131
                  exact ro_pure (v := .pointer (some ⟨gr, (top - 1) * 2 + 1, none⟩)) (wanted_none rfl) (by simp [execOp, Act.eval, e131, f131, go_sem]) (sp_same (by kernel_rfl) hl hs hS (show (.pointer (some ⟨gr, (top - 1) * 2 + 1, none⟩) : Value) = _ from rfl)) trivial
                refine SSteps.cons (fun a w' vs σ hS hl hs hk => ?_) ?_
                · have e132 : a.tmps.getD 132 undef = (.pointer (some ⟨gr, (top - 1) * 2 + 1, none⟩) : Value) := (sk_val hk 8 (by kernel_rfl) rfl rfl).trans ((hk.1 8 (by kernel_rfl)).1)
                  have f132 := gd e132
                  have h1 : σ[0]? = some (.lines (.slice (some ⟨gr, 0, none⟩) L.length c) L1) := hs 0 (by decide)
                  obtain ⟨F9, bs9, hF9, -⟩ := hS.get (sg h1)
                  obtain ⟨A9, c9, e9, -, -, -, hg9⟩ := hF9.form
                  simp only [Value.slice.injEq] at e9
                  obtain ⟨rfl, -, rfl⟩ := e9
                  obtain ⟨g9, e9', hz, -, hso, hf⟩ := hg9 (by omega)
                  cases e9'
                  have hx := hso _ _ hlt1
                  exact rstep_store (w2 := w'.setCell ⟨gr, (top - 1) * 2 + 1, none⟩ (.bool false)) (wanted_none rfl) rfl (by simp [execOp, Act.eval, e132, f132, hx, hf, hz, go_sem]) (sp_set 0 (.lines (.slice (some ⟨gr, 0, none⟩) L.length c) (L1.set (top - 1) (l9.1, false))) (by kernel_rfl) (by simp) (by decide) hl hs (by rfl) (hS.storeSoft (sg h1) hlt1) trivial) trivial
                exact SSteps.nil
              · intro vs w' hS hv
                have q0 := (show vs 0 = (.pointer (some ⟨x, 0, none⟩) : Value) from hv 0 (by decide))
                have q1 := (show vs 1 = (.pointer (some ⟨x, 0, none⟩) : Value) from hv 1 (by decide))
                have q2 := (show vs 2 = (.pointer (some ⟨x, 1, none⟩) : Value) from hv 2 (by decide))
                have q3 := (show vs 3 = (.slice (some ⟨gr, 0, none⟩) L.length c : Value) from hv 3 (by decide))
                have q4 := (show vs 4 = (.pointer (some ⟨b5, 0, none⟩) : Value) from hv 4 (by decide))
                have q5 := (show vs 5 = (.int .i64 ↑top : Value) from hv 5 (by decide))
                have q6 := (show vs 6 = (.int .i64 (↑top - 1) : Value) from hv 6 (by decide))
                have q7 := (show vs 7 = (.pointer (some ⟨gr, (top - 1) * 2, none⟩) : Value) from hv 7 (by decide))
                have q8 := (show vs 8 = (.pointer (some ⟨gr, (top - 1) * 2 + 1, none⟩) : Value) from hv 8 (by decide))
                have S2 := Lib.hid hS
                simp only [putL, Act.put, Nat.zero_add, Nat.reduceAdd, List.setIfInBounds_toArray, List.set_cons_succ, List.set_cons_zero, q0, q1, q2, q3, q4, q5, q6, q7, q8]
                clear hS hv q0 q1 q2 q3 q4 q5 q6 q7 q8
                have S9 := S2.out
                rw [HT0.out] at S9
                have SF := Lib.hid (fin_roll2 S9)
                clear S9 S2
                go_wp2_with fail
                go_ret
                exact ⟨Ag, k, cg, rfl, by rw [← HGONE.out, ← HLF.out]; exact SF.out⟩
          have hdA : d < All.length := by rw [HAL.out]; exact hlt
          have hdR : d < Rr.length := by rw [HRL.out]; omega
          obtain ⟨Ad, nd, cd, hsl⟩ := HSLI.out All[d] (List.getElem_mem hdA)
          have hdz : (0 : Int) ≤ (d : Int) := by omega
          have hdz2 : (d : Int) < (k : Int) := by omega
          have htz : (0 : Int) ≤ (top : Int) + (d : Int) := by omega
          have htz2 : (top : Int) + (d : Int) < (L.length : Int) := by omega
          have htn : ((top : Int) + (d : Int)).toNat = top + d := by omega
          have HWD := Lib.hid (show IntKind.i64.wrap ((top : Int) + (d : Int)) = (top : Int) + (d : Int) from IntWalk.i64_in _ (by omega))
          have HHL := Lib.hid (show (hdP T1 ++ (hdP (All.take d) ++ hdP (Rr.drop d))).length = top + (d + (Rr.length - d)) by simp only [List.length_append, hdP_length, List.length_drop, List.length_take, HT1.out]; omega)
          go_upto_region 25 with (fail)
          refine wp_region_stage (w0 := w0) (os := (.pile P :: .lines (.slice Ag k cg) G :: .box b7 31 (pv q) :: os)) (by kernel_rfl) (by kernel_rfl) (by kernel_rfl) [(0, 13, [], fun vs => .heads (.slice (some ⟨gr, 0, none⟩) L.length c) (List.set (hdP T1 ++ (hdP (All.take d) ++ hdP (Rr.drop d))) (top + d) (All[d].1, All[d].2.2)))] [[], [], [], [2], [], [3], [], [], [], [], [], [1], [], [0]] [.heads (.slice (some ⟨gr, 0, none⟩) L.length c) (hdP T1 ++ (hdP (All.take d) ++ hdP (Rr.drop d))), .heads (.slice (some ⟨ga, 0, none⟩) k ca) (hdP All), .box x 63 #[.int .i64 ↑cols, .slice (some ⟨gr, 0, none⟩) L.length c], .box b5 23 #[.int .i64 ↑top, .int .i64 ↑bot]] (fun i u => match i with | 0 => u = (.pointer (some ⟨x, 0, none⟩) : Value) | 1 => u = (.pointer (some ⟨x, 0, none⟩) : Value) | 2 => u = (.pointer (some ⟨x, 1, none⟩) : Value) | 3 => u = (.slice (some ⟨gr, 0, none⟩) L.length c : Value) | 4 => u = (.pointer (some ⟨b5, 0, none⟩) : Value) | 5 => u = (.int .i64 ↑top : Value) | 6 => u = (.int .i64 ↑d : Value) | 7 => u = (.int .i64 (↑top + ↑d) : Value) | 8 => u = (.slice (some ⟨ga, 0, none⟩) k ca : Value) | 9 => u = (.int .i64 ↑d : Value) | 10 => u = (.pointer (some ⟨ga, d * 2, none⟩) : Value) | 11 => u = (.agg #[All[d].1, .bool All[d].2.2] : Value) | 12 => u = (.pointer (some ⟨gr, (top + d) * 2, none⟩) : Value) | 13 => True | _ => True) (fun vs => [.heads (.slice (some ⟨gr, 0, none⟩) L.length c) (List.set (hdP T1 ++ (hdP (All.take d) ++ hdP (Rr.drop d))) (top + d) (All[d].1, All[d].2.2)), .heads (.slice (some ⟨ga, 0, none⟩) k ca) (hdP All), .box x 63 #[.int .i64 ↑cols, .slice (some ⟨gr, 0, none⟩) L.length c], .box b5 23 #[.int .i64 ↑top, .int .i64 ↑bot]]) (by kernel_rfl) (fun vs => by rfl) S8.out ?_ ?_
          · refine SSteps.cons (fun a w' vs σ hS hl hs hk => ?_) ?_
            · have e0 : a.tmps.getD 0 undef = (.pointer (some ⟨x, 0, none⟩) : Value) := (sk_old hk 0 (by kernel_rfl)).trans rfl
              have f0 := gd e0
              exact ro_pure (v := .pointer (some ⟨x, 0, none⟩)) (wanted_none rfl) (by simp [execOp, Act.eval, e0, f0, go_sem]) (sp_same (by kernel_rfl) hl hs hS (show (.pointer (some ⟨x, 0, none⟩) : Value) = _ from rfl)) trivial
            refine SSteps.cons (fun a w' vs σ hS hl hs hk => ?_) ?_
            · have e108 : a.tmps.getD 108 undef = (.pointer (some ⟨x, 0, none⟩) : Value) := (sk_val hk 0 (by kernel_rfl) rfl rfl).trans ((hk.1 0 (by kernel_rfl)).1)
              have f108 := gd e108
              exact ro_pure (v := .pointer (some ⟨x, 0, none⟩)) (wanted_none rfl) (by simp [execOp, Act.eval, e108, f108, go_sem]) (sp_same (by kernel_rfl) hl hs hS (show (.pointer (some ⟨x, 0, none⟩) : Value) = _ from rfl)) trivial
            refine SSteps.cons (fun a w' vs σ hS hl hs hk => ?_) ?_
            · have e109 : a.tmps.getD 109 undef = (.pointer (some ⟨x, 0, none⟩) : Value) := (sk_val hk 1 (by kernel_rfl) rfl rfl).trans ((hk.1 1 (by kernel_rfl)).1)
              have f109 := gd e109
              exact ro_pure (v := .pointer (some ⟨x, 1, none⟩)) (wanted_none rfl) (by simp [execOp, Act.eval, e109, f109, go_sem]) (sp_same (by kernel_rfl) hl hs hS (show (.pointer (some ⟨x, 1, none⟩) : Value) = _ from rfl)) trivial
            refine SSteps.cons (fun a w' vs σ hS hl hs hk => ?_) ?_
            · have e110 : a.tmps.getD 110 undef = (.pointer (some ⟨x, 1, none⟩) : Value) := (sk_val hk 2 (by kernel_rfl) rfl rfl).trans ((hk.1 2 (by kernel_rfl)).1)
              have f110 := gd e110
              have hx := (hS.box (sg (hs 2 (by decide)))).cell
              exact ro_pure (v := .slice (some ⟨gr, 0, none⟩) L.length c) (wanted_none rfl) (by simp [execOp, Act.eval, e110, f110, go_sem, hx]) (sp_same (by kernel_rfl) hl hs hS (show (.slice (some ⟨gr, 0, none⟩) L.length c : Value) = _ from rfl)) trivial
            refine SSteps.cons (fun a w' vs σ hS hl hs hk => ?_) ?_
            · have e5 : a.tmps.getD 5 undef = (.pointer (some ⟨b5, 0, none⟩) : Value) := (sk_old hk 5 (by kernel_rfl)).trans rfl
              have f5 := gd e5
              exact ro_pure (v := .pointer (some ⟨b5, 0, none⟩)) (wanted_none rfl) (by simp [execOp, Act.eval, e5, f5, go_sem]) (sp_same (by kernel_rfl) hl hs hS (show (.pointer (some ⟨b5, 0, none⟩) : Value) = _ from rfl)) trivial
            refine SSteps.cons (fun a w' vs σ hS hl hs hk => ?_) ?_
            · have e112 : a.tmps.getD 112 undef = (.pointer (some ⟨b5, 0, none⟩) : Value) := (sk_val hk 4 (by kernel_rfl) rfl rfl).trans ((hk.1 4 (by kernel_rfl)).1)
              have f112 := gd e112
              have hx := (hS.box (sg (hs 3 (by decide)))).cell
              exact ro_pure (v := .int .i64 ↑top) (wanted_none rfl) (by simp [execOp, Act.eval, e112, f112, go_sem, hx]) (sp_same (by kernel_rfl) hl hs hS (show (.int .i64 ↑top : Value) = _ from rfl)) trivial
            refine SSteps.cons (fun a w' vs σ hS hl hs hk => ?_) ?_
            · have e17 : a.tmps.getD 17 undef = (.int .i64 ↑d : Value) := (sk_old hk 17 (by kernel_rfl)).trans rfl
              have f17 := gd e17
              exact ro_pure (v := .int .i64 ↑d) (wanted_none rfl) (by simp [execOp, Act.eval, e17, f17, go_sem]) (sp_same (by kernel_rfl) hl hs hS (show (.int .i64 ↑d : Value) = _ from rfl)) trivial
            refine SSteps.cons (fun a w' vs σ hS hl hs hk => ?_) ?_
            · have e113 : a.tmps.getD 113 undef = (.int .i64 ↑top : Value) := (sk_val hk 5 (by kernel_rfl) rfl rfl).trans ((hk.1 5 (by kernel_rfl)).1)
              have f113 := gd e113
              have e114 : a.tmps.getD 114 undef = (.int .i64 ↑d : Value) := (sk_val hk 6 (by kernel_rfl) rfl rfl).trans ((hk.1 6 (by kernel_rfl)).1)
              have f114 := gd e114
              exact ro_pure (v := .int .i64 (↑top + ↑d)) (wanted_none rfl) (by simp [execOp, Act.eval, e113, f113, e114, f114, go_sem, HWD.out]) (sp_same (by kernel_rfl) hl hs hS (show (.int .i64 (↑top + ↑d) : Value) = _ from rfl)) trivial
            refine SSteps.cons (fun a w' vs σ hS hl hs hk => ?_) ?_
            · have e16 : a.tmps.getD 16 undef = (.slice (some ⟨ga, 0, none⟩) k ca : Value) := (sk_old hk 16 (by kernel_rfl)).trans rfl
              have f16 := gd e16
              exact ro_pure (v := .slice (some ⟨ga, 0, none⟩) k ca) (wanted_none rfl) (by simp [execOp, Act.eval, e16, f16, go_sem]) (sp_same (by kernel_rfl) hl hs hS (show (.slice (some ⟨ga, 0, none⟩) k ca : Value) = _ from rfl)) trivial
            refine SSteps.cons (fun a w' vs σ hS hl hs hk => ?_) ?_
            · have e17 : a.tmps.getD 17 undef = (.int .i64 ↑d : Value) := (sk_old hk 17 (by kernel_rfl)).trans rfl
              have f17 := gd e17
              exact ro_pure (v := .int .i64 ↑d) (wanted_none rfl) (by simp [execOp, Act.eval, e17, f17, go_sem]) (sp_same (by kernel_rfl) hl hs hS (show (.int .i64 ↑d : Value) = _ from rfl)) trivial
            refine SSteps.cons (fun a w' vs σ hS hl hs hk => ?_) ?_
            · have e116 : a.tmps.getD 116 undef = (.slice (some ⟨ga, 0, none⟩) k ca : Value) := (sk_val hk 8 (by kernel_rfl) rfl rfl).trans ((hk.1 8 (by kernel_rfl)).1)
              have f116 := gd e116
              have e117 : a.tmps.getD 117 undef = (.int .i64 ↑d : Value) := (sk_val hk 9 (by kernel_rfl) rfl rfl).trans ((hk.1 9 (by kernel_rfl)).1)
              have f117 := gd e117
              exact ro_pure (v := .pointer (some ⟨ga, d * 2, none⟩)) (wanted_none rfl) (by simp [execOp, Act.eval, e116, f116, e117, f117, go_sem, hdz, hdz2]) (sp_same (by kernel_rfl) hl hs hS (show (.pointer (some ⟨ga, d * 2, none⟩) : Value) = _ from rfl)) trivial
            refine SSteps.cons (fun a w' vs σ hS hl hs hk => ?_) ?_
            · have e118 : a.tmps.getD 118 undef = (.pointer (some ⟨ga, d * 2, none⟩) : Value) := (sk_val hk 10 (by kernel_rfl) rfl rfl).trans ((hk.1 10 (by kernel_rfl)).1)
              have f118 := gd e118
              have h1 : σ[1]? = some (.heads (.slice (some ⟨ga, 0, none⟩) k ca) (hdP All)) := hs 1 (by decide)
              obtain ⟨A8, c8, e8, -, -, -, hg8⟩ := hS.headsForm (sg h1)
              simp only [Value.slice.injEq] at e8
              obtain ⟨rfl, -, rfl⟩ := e8
              obtain ⟨g8, e9, hz, hcs, hf⟩ := hg8 (by rw [hdP_length]; omega)
              cases e9
              obtain ⟨hx, hx'⟩ := hcs d (All[d].1, All[d].2.2) (by simp [hdP, hdA])
              exact ro_pure (v := .agg #[All[d].1, .bool All[d].2.2]) (wanted_none rfl) (by simp [execOp, Act.eval, e118, f118, hx, hx', go_sem]) (sp_same (by kernel_rfl) hl hs hS rfl) trivial
            refine SSteps.cons (fun a w' vs σ hS hl hs hk => ?_) ?_
            · have e111 : a.tmps.getD 111 undef = (.slice (some ⟨gr, 0, none⟩) L.length c : Value) := (sk_val hk 3 (by kernel_rfl) rfl rfl).trans ((hk.1 3 (by kernel_rfl)).1)
              have f111 := gd e111
              have e115 : a.tmps.getD 115 undef = (.int .i64 (↑top + ↑d) : Value) := (sk_val hk 7 (by kernel_rfl) rfl rfl).trans ((hk.1 7 (by kernel_rfl)).1)
              have f115 := gd e115
              exact ro_pure (v := .pointer (some ⟨gr, (top + d) * 2, none⟩)) (wanted_none rfl) (by simp [execOp, Act.eval, e111, f111, e115, f115, go_sem, htz, htz2, htn]) (sp_same (by kernel_rfl) hl hs hS (show (.pointer (some ⟨gr, (top + d) * 2, none⟩) : Value) = _ from rfl)) trivial
            refine SSteps.cons (fun a w' vs σ hS hl hs hk => ?_) ?_
            · have e120 : a.tmps.getD 120 undef = (.pointer (some ⟨gr, (top + d) * 2, none⟩) : Value) := (sk_val hk 12 (by kernel_rfl) rfl rfl).trans ((hk.1 12 (by kernel_rfl)).1)
              have f120 := gd e120
              have e119 : a.tmps.getD 119 undef = (.agg #[All[d].1, .bool All[d].2.2] : Value) := (sk_val hk 11 (by kernel_rfl) rfl rfl).trans ((hk.1 11 (by kernel_rfl)).1)
              have f119 := gd e119
              have h1 : σ[0]? = some (.heads (.slice (some ⟨gr, 0, none⟩) L.length c) (hdP T1 ++ (hdP (All.take d) ++ hdP (Rr.drop d)))) := hs 0 (by decide)
              obtain ⟨A8, c8, e8, -, -, -, hg8⟩ := hS.headsForm (sg h1)
              simp only [Value.slice.injEq] at e8
              obtain ⟨rfl, -, rfl⟩ := e8
              have hHl := HHL.out
              obtain ⟨g8, e9, hz, hcs, hf⟩ := hg8 (by omega)
              cases e9
              obtain ⟨x8, hx8⟩ := get_of (show top + d < (hdP T1 ++ (hdP (All.take d) ++ hdP (Rr.drop d))).length by omega)
              obtain ⟨hx, hx'⟩ := hcs (top + d) x8 hx8
              exact rstep_store (w2 := (w'.setCell ⟨gr, (top + d) * 2, none⟩ All[d].1).setCell ⟨gr, (top + d) * 2 + 1, none⟩ (.bool All[d].2.2)) (wanted_none rfl) rfl (by simp [execOp, Act.eval, e120, f120, e119, f119, hsl, hx, hx', hf, hz, go_sem]) (sp_set 0 (.heads (.slice (some ⟨gr, 0, none⟩) L.length c) (List.set (hdP T1 ++ (hdP (All.take d) ++ hdP (Rr.drop d))) (top + d) (All[d].1, All[d].2.2))) (by kernel_rfl) (by simp) (by decide) hl hs (by rfl) (hS.storeHead (sg h1)) trivial) trivial
            exact SSteps.nil
          · intro vs w' hS hv
            have q0 := (show vs 0 = (.pointer (some ⟨x, 0, none⟩) : Value) from hv 0 (by decide))
            have q1 := (show vs 1 = (.pointer (some ⟨x, 0, none⟩) : Value) from hv 1 (by decide))
            have q2 := (show vs 2 = (.pointer (some ⟨x, 1, none⟩) : Value) from hv 2 (by decide))
            have q3 := (show vs 3 = (.slice (some ⟨gr, 0, none⟩) L.length c : Value) from hv 3 (by decide))
            have q4 := (show vs 4 = (.pointer (some ⟨b5, 0, none⟩) : Value) from hv 4 (by decide))
            have q5 := (show vs 5 = (.int .i64 ↑top : Value) from hv 5 (by decide))
            have q6 := (show vs 6 = (.int .i64 ↑d : Value) from hv 6 (by decide))
            have q7 := (show vs 7 = (.int .i64 (↑top + ↑d) : Value) from hv 7 (by decide))
            have q8 := (show vs 8 = (.slice (some ⟨ga, 0, none⟩) k ca : Value) from hv 8 (by decide))
            have q9 := (show vs 9 = (.int .i64 ↑d : Value) from hv 9 (by decide))
            have q10 := (show vs 10 = (.pointer (some ⟨ga, d * 2, none⟩) : Value) from hv 10 (by decide))
            have q11 := (show vs 11 = (.agg #[All[d].1, .bool All[d].2.2] : Value) from hv 11 (by decide))
            have q12 := (show vs 12 = (.pointer (some ⟨gr, (top + d) * 2, none⟩) : Value) from hv 12 (by decide))
            have S2 := Lib.hid hS
            simp only [putL, Act.put, Nat.zero_add, Nat.reduceAdd, List.setIfInBounds_toArray, List.set_cons_succ, List.set_cons_zero, q0, q1, q2, q3, q4, q5, q6, q7, q8, q9, q10, q11, q12]
            clear hS hv q0 q1 q2 q3 q4 q5 q6 q7 q8 q9 q10 q11 q12
            have S9 := S2.out
            rw [hdP_fill All[d].1 All[d].2.1 All[d].2.2 HT1.out (by rw [List.length_take]; omega) hdR, show All.take d ++ [(All[d].1, All[d].2.1, All[d].2.2)] = All.take (d + 1) from (List.take_succ_eq_append_getElem hdA).symm] at S9
            have S10 := Lib.hid S9
            clear S9 S2
            go_wp2_with fail
            go_roundw
            case rel => exact ⟨d + 1, by omega, by go_num, S10.out⟩
            case measure => simp [intOf]; omega
end
end Go.Proofs.YtghahanpmcpacaaDoor

/-
  Shift and Roll wherever the grid lies; what they answer where nothing is done.
-/
set_option linter.unusedSimpArgs false
set_option linter.unusedVariables false
namespace Go.Proofs.YtghahanpmcpacaaDoor
open Go.RowKit

section
variable {w0 w : World} {os : List Ob} {k p cols : Nat} {L : List Ln}
theorem Roll_zero {top bot : Int} {n : Int} (q : Pen) (hT : Tabs w0) (hS : Objs w0 w os) (hk : os[k]? = some (.grid p 37 cols L)) (hc : 0 < cols) (hin : 0 ≤ top ∧ top ≤ bot ∧ bot < L.length) (hq : q.ok = true) (hn : n = 0) :
    Calls Tryd.prog 37 #[.pointer (some ⟨p, 0, none⟩), .agg #[.int .i64 top, .int .i64 bot], .int .i64 n, .agg (pv q)] w fun e w' => e = .returned (.tuple #[.slice none 0 0, .int .i64 0]) ∧ Objs w0 w' os := by
  have HQ := Lib.hid hq
  subst hn
  clear hq
  have S := Lib.hid hS
  have HT := Lib.hid hT
  have HK := Lib.hid hk
  have d1 : decide (top < 0) = false := by simp; omega
  have d2 : decide (bot < top) = false := by simp; omega
  have d3 : decide ((L.length : Int) ≤ bot) = false := by simp; omega
  clear hS hT hk
  go_enter Tryd.func37, Tryd.ntmps37
  go_wp2_with fail
  refine (none_no S.out.alloc2 (k := k + 2) HK.out hc).mono ?_
  rintro e w1 ⟨rfl, hS⟩
  generalize w.heap.size + 1 = b7 at hS ⊢
  generalize w.heap.size = b5 at hS ⊢
  have S2 := Lib.hid hS
  obtain ⟨A, c, hB, hcx, -⟩ := hS.gridRd (k := k + 2) HK.out
  obtain ⟨hx5, hf5, hz5⟩ := (hS.box (k := 1) rfl).facts
  obtain ⟨hxp, hfp, hzp⟩ := hB.facts
  clear hS hB S
  go_wp2_with fail
  refine wp_region_below (by kernel_rfl) (by kernel_rfl) ?_
  repeat (go_big_quiet_step (fail))
  refine wpQuiet_nil ?_
  intro w2 hb2
  have S3 := Lib.hid (S2.out.bel hb2)
  clear hx5 hf5 hz5 hxp hfp hzp S2 hb2
  have hp7 := (S3.out.box (k := 0) rfl).penAt
  have hz7 := (S3.out.box (k := 0) rfl).lt
  go_wp2_with fail
  refine (inked_is HQ.out HT.out S3.out).mono ?_
  rintro e w3 ⟨rfl, hS⟩
  have S4 := Lib.hid hS
  clear hS S3 hp7 hz7
  go_wp2_with fail
  go_ret2
  exact ⟨rfl, S4.out.tail.tail⟩
theorem Roll_pen {top bot n : Int} (q : Pen) (hT : Tabs w0) (hS : Objs w0 w os) (hk : os[k]? = some (.grid p 37 cols L)) (hc : 0 < cols) (hin : 0 ≤ top ∧ top ≤ bot ∧ bot < L.length) (hq : q.ok = false) :
    Calls Tryd.prog 37 #[.pointer (some ⟨p, 0, none⟩), .agg #[.int .i64 top, .int .i64 bot], .int .i64 n, .agg (pv q)] w fun e w' => e = .returned (.tuple #[.slice none 0 0, .int .i64 2]) ∧ Objs w0 w' os := by
  have HQ := Lib.hid hq
  clear hq
  have S := Lib.hid hS
  have HT := Lib.hid hT
  have HK := Lib.hid hk
  have d1 : decide (top < 0) = false := by simp; omega
  have d2 : decide (bot < top) = false := by simp; omega
  have d3 : decide ((L.length : Int) ≤ bot) = false := by simp; omega
  clear hS hT hk
  go_enter Tryd.func37, Tryd.ntmps37
  go_wp2_with fail
  refine (none_no S.out.alloc2 (k := k + 2) HK.out hc).mono ?_
  rintro e w1 ⟨rfl, hS⟩
  generalize w.heap.size + 1 = b7 at hS ⊢
  generalize w.heap.size = b5 at hS ⊢
  have S2 := Lib.hid hS
  obtain ⟨A, c, hB, hcx, -⟩ := hS.gridRd (k := k + 2) HK.out
  obtain ⟨hx5, hf5, hz5⟩ := (hS.box (k := 1) rfl).facts
  obtain ⟨hxp, hfp, hzp⟩ := hB.facts
  clear hS hB S
  go_wp2_with fail
  refine wp_region_below (by kernel_rfl) (by kernel_rfl) ?_
  repeat (go_big_quiet_step (fail))
  refine wpQuiet_nil ?_
  intro w2 hb2
  have S3 := Lib.hid (S2.out.bel hb2)
  clear hx5 hf5 hz5 hxp hfp hzp S2 hb2
  have hp7 := (S3.out.box (k := 0) rfl).penAt
  have hz7 := (S3.out.box (k := 0) rfl).lt
  go_wp2_with fail
  refine (inked_is HQ.out HT.out S3.out).mono ?_
  rintro e w3 ⟨rfl, hS⟩
  have S4 := Lib.hid hS
  clear hS S3 hp7 hz7
  go_wp2_with fail
  go_ret2
  exact ⟨rfl, S4.out.tail.tail⟩
theorem RollG {top bot : Nat} (n : Int) (q : Pen) (hT : Tabs w0) (hS : Objs w0 w os) (hk : os[k]? = some (.grid p 37 cols L)) (hc : 0 < cols) (hcm : cols ≤ 1000) (hL : L.length ≤ 100000) (htb : top ≤ bot) (hbl : bot < L.length) (hq : q.ok = true) (hn : -9223372036854775808 ≤ n ∧ n ≤ 9223372036854775807) :
    Calls Tryd.prog 37 #[.pointer (some ⟨p, 0, none⟩), .agg #[.int .i64 top, .int .i64 bot], .int .i64 n, .agg (pv q)] w fun e w' => ∃ A m c, e = .returned (.tuple #[.slice A m c, .int .i64 0]) ∧ Objs w0 w' (.lines (.slice A m c) (rollGone top bot n L) :: os.set k (.grid p 37 cols (rollL top bot n q cols L))) := by
  by_cases h0 : n = 0
  · have e1 : rollGone top bot n L = [] := if_pos h0
    have e2 : rollL top bot n q cols L = L := if_pos h0
    rw [e1, e2, set_self hk]
    exact (Roll_zero (top := top) (bot := bot) q hT hS hk hc ⟨by omega, by omega, by omega⟩ hq h0).mono (fun e w' ⟨h1, h2⟩ => ⟨none, 0, 0, h1, h2.nilLines⟩)
  by_cases h1 : 0 < n
  · by_cases h2 : n < ((bot + 1 - top : Nat) : Int)
    · exact (Roll_pos (k := n.toNat) q hT (hS.lift hk) hc hcm hL htb hbl hq h1 (.inl ⟨h2, by omega⟩)).mono (fun e w' ⟨A, m, c, h1, h2⟩ => ⟨A, m, c, h1, h2.lowerNew hk⟩)
    · exact (Roll_pos (k := bot + 1 - top) q hT (hS.lift hk) hc hcm hL htb hbl hq h1 (.inr ⟨⟨by omega, hn.2⟩, rfl⟩)).mono (fun e w' ⟨A, m, c, h1, h2⟩ => ⟨A, m, c, h1, h2.lowerNew hk⟩)
  · by_cases h2 : -((bot + 1 - top : Nat) : Int) < n
    · exact (Roll_neg (k := (-n).toNat) q hT (hS.lift hk) hc hcm hL htb hbl hq (by omega) (.inl ⟨h2, by omega⟩)).mono (fun e w' ⟨A, m, c, h1, h2⟩ => ⟨A, m, c, h1, h2.lowerNew hk⟩)
    · exact (Roll_neg (k := bot + 1 - top) q hT (hS.lift hk) hc hcm hL htb hbl hq (by omega) (.inr ⟨⟨by omega, hn.1⟩, rfl⟩)).mono (fun e w' ⟨A, m, c, h1, h2⟩ => ⟨A, m, c, h1, h2.lowerNew hk⟩)
set_option maxRecDepth 100000 in
theorem r14Roll_zero {top bot n : Int} (q : Pen) (hS : Objs w0 w os) (hn : n = 0) :
    Calls Tryd.prog 62 #[.pointer (some ⟨p, 0, none⟩), .agg #[.int .i64 top, .int .i64 bot], .int .i64 n, .agg (pv q)] w fun e w' => e = .returned (.slice none 0 0) ∧ Objs w0 w' os := by
  have S := Lib.hid hS
  subst hn
  clear hS
  go_enter Tryd.func62, Tryd.ntmps62
  go_upto_region 1 with (fail)
  refine at_objsC S.out.alloc2 (fun W hW => ?_)
  have SW := Lib.hid hW
  clear hW
  go_wp2_with fail
  go_ret
  exact ⟨rfl, SW.out.tail.tail⟩
theorem r14RollG {top bot : Nat} (n : Int) (q : Pen) (hS : Objs w0 w os) (hk : os[k]? = some (.grid p 63 cols L)) (hcm : cols ≤ 1000) (hL : L.length ≤ 1000) (hmill : ∀ l ∈ L, l.1.length ≤ 1000000) (htb : top ≤ bot) (hbl : bot < L.length) (hn : -9223372036854775808 ≤ n ∧ n ≤ 9223372036854775807) :
    Calls Tryd.prog 62 #[.pointer (some ⟨p, 0, none⟩), .agg #[.int .i64 top, .int .i64 bot], .int .i64 n, .agg (pv q)] w fun e w' => ∃ A m c, e = .returned (.slice A m c) ∧ Objs w0 w' (.lines (.slice A m c) (rollGone top bot n L) :: os.set k (.grid p 63 cols (rollL top bot n q cols L))) := by
  by_cases h0 : n = 0
  · have e1 : rollGone top bot n L = [] := if_pos h0
    have e2 : rollL top bot n q cols L = L := if_pos h0
    rw [e1, e2, set_self hk]
    exact (r14Roll_zero (top := top) (bot := bot) q hS h0).mono (fun e w' ⟨h1, h2⟩ => ⟨none, 0, 0, h1, h2.nilLines⟩)
  by_cases h1 : 0 < n
  · by_cases h2 : n < ((bot + 1 - top : Nat) : Int)
    · exact (r14Roll_pos (k := n.toNat) q (hS.lift hk) hcm hL hmill htb hbl h1 (.inl ⟨h2, by omega⟩)).mono (fun e w' ⟨A, m, c, h1, h2⟩ => ⟨A, m, c, h1, h2.lowerNew hk⟩)
    · exact (r14Roll_pos (k := bot + 1 - top) q (hS.lift hk) hcm hL hmill htb hbl h1 (.inr ⟨⟨by omega, hn.2⟩, rfl⟩)).mono (fun e w' ⟨A, m, c, h1, h2⟩ => ⟨A, m, c, h1, h2.lowerNew hk⟩)
  · by_cases h2 : -((bot + 1 - top : Nat) : Int) < n
    · exact (r14Roll_neg (k := (-n).toNat) q (hS.lift hk) hcm hL hmill htb hbl (by omega) (.inl ⟨h2, by omega⟩)).mono (fun e w' ⟨A, m, c, h1, h2⟩ => ⟨A, m, c, h1, h2.lowerNew hk⟩)
    · exact (r14Roll_neg (k := bot + 1 - top) q (hS.lift hk) hcm hL hmill htb hbl (by omega) (.inr ⟨⟨by omega, hn.1⟩, rfl⟩)).mono (fun e w' ⟨A, m, c, h1, h2⟩ => ⟨A, m, c, h1, h2.lowerNew hk⟩)
end
end Go.Proofs.YtghahanpmcpacaaDoor

/-
  Erasing, in plain lists: what becomes of a row, of all rows.
-/
set_option linter.unusedSimpArgs false
set_option linter.unusedVariables false
namespace Go.Proofs.YtghahanpmcpacaaDoor
open Go.RowKit

theorem cAt_set (cs : List Cell) (i j : Nat) (x : Cell) : cAt (cs.set i x) j = if i = j ∧ i < cs.length then x else cAt cs j := by
  unfold cAt
  simp only [List.getD_eq_getElem?_getD, List.getElem?_set]
  by_cases h : i = j
  · subst h
    by_cases h2 : i < cs.length
    · simp [h2]
    · simp [h2]
  · simp [h]
theorem cAt_brk (c : Nat) (cs : List Cell) (j : Nat) : cAt (brk c cs) j = if (1 ≤ c ∧ c < cs.length ∧ (cAt cs (c - 1)).width = 2) ∧ (j + 1 = c ∨ j = c) then blank (cAt cs j).pen else cAt cs j := by
  cases c with
  | zero => simp [brk]
  | succ m =>
    rw [brk_succ]
    by_cases h : m + 1 < cs.length ∧ (cAt cs m).width = 2
    · rw [if_pos h, cAt_set, cAt_set]
      simp only [List.length_set, Nat.add_sub_cancel]
      by_cases h1 : m + 1 = j
      · subst h1; simp [h.1, h.2]
      · by_cases h2 : m = j
        · subst h2; simp [h.2, show m < cs.length by omega, h.1]
        · rw [if_neg (by omega), if_neg (by omega), if_neg (by omega)]
    · rw [if_neg h, if_neg]
      simp only [Nat.add_sub_cancel]
      intro h2; exact h ⟨h2.1.2.1, h2.1.2.2⟩
/-- A row's line turns. -/
def lnMod (i : Nat) (F : Ln → Ln) (L : List Ln) : List Ln := match L[i]? with | some l => L.set i (F l) | none => L
theorem lnMod_get (i : Nat) (F : Ln → Ln) (L : List Ln) (r : Nat) : (lnMod i F L)[r]? = (L[r]?).map (fun l => if r = i then F l else l) := by
  unfold lnMod
  split
  · rename_i l hl
    rw [List.getElem?_set]
    by_cases h : i = r
    · subst h
      have hi := (List.getElem?_eq_some_iff.1 hl).1
      rw [if_pos rfl, if_pos hi, hl]
      simp
    · rw [if_neg h]
      have h' : ¬ r = i := fun e => h e.symm
      simp [h']
  · rename_i hl
    by_cases h : r = i
    · subst h; rw [hl]; rfl
    · simp [h]
theorem softMod_is (i : Nat) (s : Bool) (L : List Ln) : softMod i s L = lnMod i (fun l => (l.1, s)) L := rfl
theorem Rect.lnMod {n : Nat} {L : List Ln} (h : Rect n L) (i : Nat) {F : Ln → Ln} (hF : ∀ l : Ln, l.1.length = n → (F l).1.length = n) : Rect n (lnMod i F L) := by
  unfold Proofs.YtghahanpmcpacaaDoor.lnMod
  split
  · rename_i l hl; exact rect_set h (hF _ (h.at_ hl))
  · exact h
/-- The other rows' part of erasing in the screen: the first n rows are done. -/
def otherRow (row : Nat) (k : Int) (n : Nat) : Prop := (n < row ∧ ¬ k = 0) ∨ (row < n ∧ ¬ k = 1)
instance (row : Nat) (k : Int) (n : Nat) : Decidable (otherRow row k n) := by unfold otherRow; infer_instance
section
variable {cols row col : Nat} {k : Int} {q : Pen} {L : List Ln}
end
end Go.Proofs.YtghahanpmcpacaaDoor

/-
  What each row is behind a roll; two rolls, one after the other.
-/
set_option linter.unusedSimpArgs false
set_option linter.unusedVariables false
namespace Go.Proofs.YtghahanpmcpacaaDoor
open Go.RowKit

def hardIf (b : Prop) [Decidable b] (l : Ln) : Ln := if b then (l.1, false) else l
def freshLn (cols : Nat) (q : Pen) : Ln := (List.replicate cols (blank q), false)
theorem hardIf_no {b : Prop} [Decidable b] (h : ¬ b) : hardIf b = id := by funext l; simp [hardIf, h]
theorem softMod_get (i : Nat) (L : List Ln) (r : Nat) : (softMod i false L)[r]? = (L[r]?).map (hardIf (r = i)) := by
  rw [softMod_is, lnMod_get]; rfl
theorem rollFresh_get {k cols r : Nat} {q : Pen} (h : r < k) : (rollFresh k cols q)[r]? = some (freshLn cols q) := by simp [rollFresh, freshLn, h]
theorem rollFresh_len (k cols : Nat) (q : Pen) : (rollFresh k cols q).length = k := by simp [rollFresh]
/-- The row that lies at a place behind a roll. -/
def rollAt (top bot : Nat) (n : Int) (q : Pen) (cols : Nat) (L : List Ln) (r : Nat) : Option Ln :=
  if n = 0 then L[r]? else
  (if r < top ∨ bot < r then L[r]?
   else if 0 < n then (if r + rollK n (bot + 1 - top) ≤ bot then (L[r + rollK n (bot + 1 - top)]?).map (hardIf (r + rollK n (bot + 1 - top) = bot)) else some (freshLn cols q))
   else (if r < top + rollK n (bot + 1 - top) then some (freshLn cols q) else (L[r - rollK n (bot + 1 - top)]?).map (hardIf (r = bot)))).map (hardIf (0 < top ∧ r + 1 = top))
section
variable {top bot : Nat} {n : Int} {q : Pen} {cols : Nat} {L : List Ln}
theorem rollIn_get {r : Nat} (hr : r < bot + 1 - top) : (rollIn top bot L)[r]? = L[top + r]? := by
  unfold rollIn; rw [List.getElem?_take, if_pos hr, List.getElem?_drop]
theorem rollMid_get (htb : top ≤ bot) (hbl : bot < L.length) {r : Nat} (hr : r < bot + 1 - top) :
    (rollMid top bot n q cols L)[r]? = if 0 < n then (if r + rollK n (bot + 1 - top) ≤ bot - top then (L[top + r + rollK n (bot + 1 - top)]?).map (hardIf (r + rollK n (bot + 1 - top) = bot - top)) else some (freshLn cols q))
      else (if r < rollK n (bot + 1 - top) then some (freshLn cols q) else (L[top + r - rollK n (bot + 1 - top)]?).map (hardIf (r = bot - top))) := by
  have hK := rollK_le n (bot + 1 - top)
  have hSl := rollStay_length (n := n) htb hbl
  unfold rollMid
  by_cases h0 : 0 < n
  · rw [if_pos h0, if_pos h0]
    by_cases h1 : r + rollK n (bot + 1 - top) ≤ bot - top
    · rw [if_pos h1, List.getElem?_append_left (by rw [lastHard_length, hSl]; omega)]
      unfold lastHard
      rw [softMod_get, hSl]
      unfold rollStay
      rw [if_pos h0, List.getElem?_drop, rollIn_get (by omega), show top + (rollK n (bot + 1 - top) + r) = top + r + rollK n (bot + 1 - top) by omega]
      congr 1
      funext l
      unfold hardIf
      by_cases h2 : r + rollK n (bot + 1 - top) = bot - top
      · rw [if_pos (by omega), if_pos h2]
      · rw [if_neg (by omega), if_neg h2]
    · rw [if_neg h1, List.getElem?_append_right (by rw [lastHard_length, hSl]; omega), rollFresh_get (by rw [lastHard_length, hSl]; omega)]
  · rw [if_neg h0, if_neg h0]
    by_cases h1 : r < rollK n (bot + 1 - top)
    · rw [if_pos h1, List.getElem?_append_left (by rw [rollFresh_len]; exact h1), rollFresh_get h1]
    · rw [if_neg h1, List.getElem?_append_right (by rw [rollFresh_len]; omega), rollFresh_len]
      unfold lastHard
      rw [softMod_get, hSl]
      unfold rollStay
      rw [if_neg h0, List.getElem?_take, if_pos (by omega), rollIn_get (by omega), show top + (r - rollK n (bot + 1 - top)) = top + r - rollK n (bot + 1 - top) by omega]
      congr 1
      funext l
      unfold hardIf
      by_cases h2 : r = bot - top
      · rw [if_pos (by omega), if_pos h2]
      · rw [if_neg (by omega), if_neg h2]
theorem topHard_get (r : Nat) : (topHard top L)[r]? = (L[r]?).map (hardIf (0 < top ∧ r + 1 = top)) := by
  unfold topHard
  by_cases h : 0 < top
  · rw [if_pos h, softMod_get]
    congr 1
    funext l
    unfold hardIf
    by_cases h2 : r = top - 1
    · rw [if_pos h2, if_pos (by omega)]
    · rw [if_neg h2, if_neg (by omega)]
  · rw [if_neg h, hardIf_no (by omega)]; simp
theorem rollL_get (htb : top ≤ bot) (hbl : bot < L.length) (r : Nat) : (rollL top bot n q cols L)[r]? = rollAt top bot n q cols L r := by
  unfold rollL rollAt
  by_cases h0 : n = 0
  · rw [if_pos h0, if_pos h0]
  rw [if_neg h0, if_neg h0, topHard_get]
  congr 1
  have hM := rollMid_length (n := n) (q := q) (cols := cols) htb hbl
  by_cases h1 : r < top
  · rw [List.getElem?_append_left (by simp; omega), List.getElem?_take, if_pos h1, if_pos (.inl h1)]
  have hTl : (L.take top).length = top := by simp; omega
  rw [List.getElem?_append_right (by omega), hTl]
  by_cases h2 : bot < r
  · rw [List.getElem?_append_right (by omega), hM, List.getElem?_drop, if_pos (.inr h2), show bot + 1 + (r - top - (bot + 1 - top)) = r by omega]
  rw [List.getElem?_append_left (by omega), rollMid_get htb hbl (by omega), if_neg (by omega : ¬ (r < top ∨ bot < r))]
  by_cases h3 : 0 < n
  · rw [if_pos h3, if_pos h3]
    by_cases h4 : r + rollK n (bot + 1 - top) ≤ bot
    · rw [if_pos (by omega), if_pos h4, show top + (r - top) = r by omega]
      congr 1
      funext l
      unfold hardIf
      by_cases h5 : r + rollK n (bot + 1 - top) = bot
      · rw [if_pos (by omega), if_pos h5]
      · rw [if_neg (by omega), if_neg h5]
    · rw [if_neg (show ¬ r - top + rollK n (bot + 1 - top) ≤ bot - top by omega), if_neg h4]
  · rw [if_neg h3, if_neg h3]
    by_cases h4 : r < top + rollK n (bot + 1 - top)
    · rw [if_pos (show r - top < rollK n (bot + 1 - top) by omega), if_pos h4]
    · rw [if_neg (show ¬ r - top < rollK n (bot + 1 - top) by omega), if_neg h4, show top + (r - top) = r by omega]
      congr 1
      funext l
      unfold hardIf
      by_cases h5 : r = bot
      · rw [if_pos (by omega), if_pos h5]
      · rw [if_neg (by omega), if_neg h5]
/-- Two rolls in the same direction are one. -/
theorem hardIf_hardIf (a b : Prop) [Decidable a] [Decidable b] (l : Ln) : hardIf a (hardIf b l) = hardIf (a ∨ b) l := by
  unfold hardIf
  by_cases ha : a <;> by_cases hb : b <;> simp [ha, hb]
theorem hardIf_fresh (a : Prop) [Decidable a] (cols : Nat) (q : Pen) : hardIf a (freshLn cols q) = freshLn cols q := by
  unfold hardIf freshLn; split <;> rfl
theorem hardIf_cong {a b : Prop} [Decidable a] [Decidable b] (h : a ↔ b) : hardIf a = hardIf b := by
  funext l; unfold hardIf; by_cases ha : a
  · rw [if_pos ha, if_pos (h.1 ha)]
  · rw [if_neg ha, if_neg (fun hb => ha (h.2 hb))]
/-- What a row is, piece by piece. -/
theorem rollAt_out (hn : ¬ n = 0) {r : Nat} (h : r < top ∨ bot < r) : rollAt top bot n q cols L r = (L[r]?).map (hardIf (0 < top ∧ r + 1 = top)) := by
  unfold rollAt; rw [if_neg hn, if_pos h]
theorem rollAt_up (hn : 0 < n) {r K : Nat} (hK : rollK n (bot + 1 - top) = K) (h : ¬ (r < top ∨ bot < r)) (h2 : r + K ≤ bot) : rollAt top bot n q cols L r = (L[r + K]?).map (hardIf (r + K = bot)) := by
  subst hK
  unfold rollAt
  rw [if_neg (show ¬ n = 0 by omega), if_neg h, if_pos hn, if_pos h2, hardIf_no (show ¬ (0 < top ∧ r + 1 = top) by omega), Option.map_id, id]
theorem rollAt_upf (hn : 0 < n) {r K : Nat} (hK : rollK n (bot + 1 - top) = K) (h : ¬ (r < top ∨ bot < r)) (h2 : ¬ r + K ≤ bot) : rollAt top bot n q cols L r = some (freshLn cols q) := by
  subst hK
  unfold rollAt
  rw [if_neg (show ¬ n = 0 by omega), if_neg h, if_pos hn, if_neg h2, Option.map_some, hardIf_fresh]
theorem rollAt_dnf (hn : n < 0) {r K : Nat} (hK : rollK n (bot + 1 - top) = K) (h : ¬ (r < top ∨ bot < r)) (h2 : r < top + K) : rollAt top bot n q cols L r = some (freshLn cols q) := by
  subst hK
  unfold rollAt
  rw [if_neg (show ¬ n = 0 by omega), if_neg h, if_neg (show ¬ 0 < n by omega), if_pos h2, Option.map_some, hardIf_fresh]
theorem rollAt_dn (hn : n < 0) {r K : Nat} (hK : rollK n (bot + 1 - top) = K) (h : ¬ (r < top ∨ bot < r)) (h2 : ¬ r < top + K) : rollAt top bot n q cols L r = (L[r - K]?).map (hardIf (r = bot)) := by
  subst hK
  unfold rollAt
  rw [if_neg (show ¬ n = 0 by omega), if_neg h, if_neg (show ¬ 0 < n by omega), if_neg h2, hardIf_no (show ¬ (0 < top ∧ r + 1 = top) by omega), Option.map_id, id]
theorem map_hard (o : Option Ln) (a b c : Prop) [Decidable a] [Decidable b] [Decidable c] (h : a ∨ b ↔ c) : (o.map (hardIf b)).map (hardIf a) = o.map (hardIf c) := by
  rw [Option.map_map]
  congr 1
  funext l
  rw [Function.comp_apply, hardIf_hardIf]
  exact congrFun (hardIf_cong h) l
theorem rollL_up {m k : Nat} (htb : top ≤ bot) (hbl : bot < L.length) : rollL top bot (m : Int) q cols (rollL top bot (k : Int) q cols L) = rollL top bot ((k + m : Nat) : Int) q cols L := by
  by_cases hk0 : k = 0
  · subst hk0; rw [Nat.zero_add]; congr 1
  by_cases hm0 : m = 0
  · subst hm0; rw [Nat.add_zero]; rfl
  have hl : (rollL top bot (k : Int) q cols L).length = L.length := rollL_length htb hbl
  have e0 : rollK (k : Int) (bot + 1 - top) = min k (bot + 1 - top) := by unfold rollK; split <;> omega
  have e1 : rollK (m : Int) (bot + 1 - top) = min m (bot + 1 - top) := by unfold rollK; split <;> omega
  have e2 : rollK ((k + m : Nat) : Int) (bot + 1 - top) = min (k + m) (bot + 1 - top) := by unfold rollK; split <;> omega
  apply List.ext_getElem?
  intro r
  rw [rollL_get htb (by rw [hl]; exact hbl), rollL_get htb hbl]
  by_cases h1 : r < top ∨ bot < r
  · rw [rollAt_out (by omega) h1, rollAt_out (by omega) h1, rollL_get htb hbl, rollAt_out (by omega) h1]
    exact map_hard _ _ _ _ (by omega)
  by_cases h2 : r + min m (bot + 1 - top) ≤ bot
  · rw [rollAt_up (by omega) e1 h1 h2, rollL_get htb hbl]
    by_cases h3 : r + min m (bot + 1 - top) + min k (bot + 1 - top) ≤ bot
    · rw [rollAt_up (by omega) e0 (by omega) h3, rollAt_up (by omega) e2 h1 (by omega), show r + min m (bot + 1 - top) + min k (bot + 1 - top) = r + min (k + m) (bot + 1 - top) by omega]
      exact map_hard _ _ _ _ (by omega)
    · rw [rollAt_upf (by omega) e0 (by omega) h3, rollAt_upf (by omega) e2 h1 (by omega), Option.map_some, hardIf_fresh]
  · rw [rollAt_upf (by omega) e1 h1 h2, rollAt_upf (by omega) e2 h1 (by omega)]
/-- The lines that leave by two rolls upwards. -/
theorem rollGone_up {m k : Nat} (htb : top ≤ bot) (hbl : bot < L.length) (h : k + m ≤ bot - top) : rollGone top bot (k : Int) L ++ rollGone top bot (m : Int) (rollL top bot (k : Int) q cols L) = rollGone top bot ((k + m : Nat) : Int) L := by
  have g : ∀ (j : Nat) (M : List Ln), j ≤ bot - top → rollGone top bot (j : Int) M = (M.drop top).take j := fun j M hj => by
    unfold rollGone
    by_cases h0 : (j : Int) = 0
    · rw [if_pos h0, show j = 0 by omega]; simp
    · rw [if_neg h0, if_pos (by omega), show rollK (j : Int) (bot + 1 - top) = j by unfold rollK; split <;> omega]
      unfold rollIn
      rw [List.take_take, Nat.min_eq_left (by omega)]
  have hl : (rollL top bot (k : Int) q cols L).length = L.length := rollL_length htb hbl
  rw [g k L (by omega), g m _ (by omega), g (k + m) L (by omega)]
  apply List.ext_getElem?
  intro i
  have hlk : ((L.drop top).take k).length = k := by simp; omega
  by_cases h1 : i < k
  · rw [List.getElem?_append_left (by omega), List.getElem?_take, if_pos h1, List.getElem?_take, if_pos (by omega)]
  · rw [List.getElem?_append_right (by omega), hlk, List.getElem?_take, List.getElem?_take, List.getElem?_drop, List.getElem?_drop]
    by_cases h2 : i < k + m
    · rw [if_pos (by omega), if_pos h2, rollL_get htb hbl]
      have e0 : rollK (k : Int) (bot + 1 - top) = k := by unfold rollK; split <;> omega
      by_cases h3 : (k : Int) = 0
      · unfold rollAt; rw [if_pos h3, show top + (i - k) = top + i by omega]
      · rw [rollAt_up (by omega) e0 (by omega) (by omega), hardIf_no (by omega), show top + (i - k) + k = top + i by omega]
        simp
    · rw [if_neg (by omega), if_neg h2]
end
end Go.Proofs.YtghahanpmcpacaaDoor

/-
  Inserting and deleting, in plain lists.
-/
set_option linter.unusedSimpArgs false
set_option linter.unusedVariables false
namespace Go.Proofs.YtghahanpmcpacaaDoor
open Go.RowKit

section
variable {j k m : Nat} {q : Pen} {cs : List Cell}
/-- No wide cell lies right behind another one. -/
def W2 (cs : List Cell) : Prop := ∀ i, i + 1 < cs.length → (cAt cs i).width = 2 → ¬ (cAt cs (i + 1)).width = 2
theorem W2.brk {cs : List Cell} (h : W2 cs) (c : Nat) : W2 (brk c cs) := fun i hi h1 h2 => by
  rw [brk_length] at hi
  rw [cAt_brk] at h1 h2
  split at h1
  · simp [blank] at h1
  · split at h2
    · simp [blank] at h2
    · exact h i hi h1 h2
end
section
variable {j cols a b : Nat} {q : Pen} {cs : List Cell}
end
end Go.Proofs.YtghahanpmcpacaaDoor

/-
  Erasing by the program: its check, cells, part.
-/
set_option linter.unusedSimpArgs false
set_option linter.unusedVariables false
namespace Go.Proofs.YtghahanpmcpacaaDoor
open Go.RowKit

/-- Whether a cursor is in a grid. -/
def inG (row col : Int) (pend : Bool) (rows cols : Nat) : Bool := decide ((0 ≤ row ∧ row < rows) ∧ (0 ≤ col ∧ col < cols) ∧ (pend = true → col = (cols : Int) - 1))
theorem ingrid_iff {row col : Int} {pend : Bool} {rows cols : Nat} : inG row col pend rows cols = true ↔ (0 ≤ row ∧ row < rows) ∧ (0 ≤ col ∧ col < cols) ∧ (pend = true → col = (cols : Int) - 1) := decide_eq_true_iff
section
variable {w0 w : World} {os : List Ob} {k p cols : Nat} {L : List Ln}
theorem Rows_b {t : TypeId} {cols : Int} {A : Option Addr} {n c : Nat} (hB : Blk w p t #[.int .i64 cols, .slice A n c]) : Calls Tryd.prog 39 #[.pointer (some ⟨p, 0, none⟩)] w fun e w' => e = .returned (.int .i64 n) ∧ Below w.heap.size w w' := by
  obtain ⟨hx, hf, hz⟩ := hB.facts
  clear hB
  go_enter Tryd.func39, Tryd.ntmps39
  go_wp2_with fail
  go_ret
  exact ⟨rfl, Below.refl _ _⟩
theorem Cols_b {t : TypeId} {cols : Int} {A : Option Addr} {n c : Nat} (hB : Blk w p t #[.int .i64 cols, .slice A n c]) : Calls Tryd.prog 68 #[.pointer (some ⟨p, 0, none⟩)] w fun e w' => e = .returned (.int .i64 cols) ∧ Below w.heap.size w w' := by
  obtain ⟨hx, hf, hz⟩ := hB.facts
  clear hB
  go_enter Tryd.func68, Tryd.ntmps68
  go_wp2_with fail
  go_ret
  exact ⟨rfl, Below.refl _ _⟩
end
end Go.Proofs.YtghahanpmcpacaaDoor

/-
  Erasing by the program: Chars, InScreen; what is refused.
-/
set_option linter.unusedSimpArgs false
set_option linter.unusedVariables false
namespace Go.Proofs.YtghahanpmcpacaaDoor
open Go.RowKit

section
variable {w0 w : World} {os : List Ob} {k p cols : Nat} {L : List Ln}
end
end Go.Proofs.YtghahanpmcpacaaDoor

/-
  Erasing by the reference.
-/
set_option linter.unusedSimpArgs false
set_option linter.unusedVariables false
namespace Go.Proofs.YtghahanpmcpacaaDoor
open Go.RowKit

section
variable {w0 w : World} {os : List Ob} {k p cols : Nat} {L : List Ln}
end
end Go.Proofs.YtghahanpmcpacaaDoor

/-
  Erasing: what is refused.
-/
set_option linter.unusedSimpArgs false
set_option linter.unusedVariables false
namespace Go.Proofs.YtghahanpmcpacaaDoor
open Go.RowKit

section
variable {w0 w : World} {os : List Ob} {k p cols : Nat} {L : List Ln} {row col : Int} {pend : Bool}
/-- A grid that has no rows: nil, or zero. -/
def NoRows (w : World) (gp : Value) : Prop := ∀ w', Below w.heap.size w w' → Calls Tryd.prog 39 #[gp] w' fun e w2 => e = .returned (.int .i64 0) ∧ Below w'.heap.size w' w2
theorem NoRows.bel {gp : Value} {w' : World} (h : NoRows w gp) (hb : Below w.heap.size w w') : NoRows w' gp := fun w2 hb2 => h w2 (hb.trans (hb2.mono hb.size))
end
end Go.Proofs.YtghahanpmcpacaaDoor

/-
  Records of any size in memory under one name: a whole load is one step.
-/
set_option linter.unusedSimpArgs false
set_option linter.unusedVariables false
namespace Go.Proofs.YtghahanpmcpacaaDoor
open Go.RowKit

open Classical in
/-- The n values that lie at a place. -/
noncomputable def recAt (w : World) (b o n : Nat) : Option (Array Value) := if h : ∃ cs : Array Value, cs.size = n ∧ w.rangeAt b o cs.toList then some h.choose else none
theorem recAt_of {w : World} {b o n : Nat} {cs : Array Value} (hn : cs.size = n) (h : w.rangeAt b o cs.toList) : recAt w b o n = some cs := by
  have hx : ∃ cs : Array Value, cs.size = n ∧ w.rangeAt b o cs.toList := ⟨cs, hn, h⟩
  unfold recAt
  rw [dif_pos hx]
  exact congrArg some (rangeAt_det (by rw [hx.choose_spec.1, hn]) hx.choose_spec.2 h)
theorem range_of_recAt {w : World} {b o n : Nat} {cs : Array Value} (h : recAt w b o n = some cs) : cs.size = n ∧ w.rangeAt b o cs.toList := by
  unfold recAt at h
  split at h
  · rename_i hx; have := hx.choose_spec; rw [Option.some.inj h] at this; exact this
  · cases h
theorem recAt_same {w w' : World} {b : Nat} (h : ∀ i, w'.cell? ⟨b, i, none⟩ = w.cell? ⟨b, i, none⟩) (o n : Nat) : recAt w' b o n = recAt w b o n := by
  cases h1 : recAt w b o n with
  | some c => exact recAt_of (range_of_recAt h1).1 ((rangeAt_same h).2 (range_of_recAt h1).2)
  | none =>
    cases h2 : recAt w' b o n with
    | none => rfl
    | some c => rw [recAt_of (range_of_recAt h2).1 ((rangeAt_same h).1 (range_of_recAt h2).2)] at h1; cases h1
@[go_sem] theorem recAt_alloc (w : World) (ob : Obj) (b o n : Nat) (h : b < w.heap.size) : recAt (w.alloc ob) b o n = recAt w b o n := recAt_same (fun i => World.cell?_alloc_lt w ob ⟨b, i, none⟩ h) o n
theorem recAt_below {w w' : World} {B b : Nat} (hb : Below B w w') (h : b < B) (o n : Nat) : recAt w' b o n = recAt w b o n := recAt_same (fun i => hb.cell (p := ⟨b, i, none⟩) h) o n
@[go_sem] theorem recAt_plus (w x : World) (b o n : Nat) (h : b < w.heap.size) : recAt (plus w x) b o n = recAt w b o n := recAt_same (fun i => cell_plus w x b i h) o n
@[go_sem] theorem recAt_drew (w : World) (b o n : Nat) : recAt w.drew b o n = recAt w b o n := rfl
theorem Blk.recAt {w : World} {g : Nat} {t : TypeId} {cs : Array Value} (h : Blk w g t cs) (n : Nat) (hn : cs.size = n) : Proofs.YtghahanpmcpacaaDoor.recAt w g 0 n = some cs := recAt_of hn h.range
def ldR (a : Addr) (n : Nat) : Sem (Array Value) := loadCells a n
theorem ldR_of {w : World} {b o n : Nat} {cs : Array Value} (h : recAt w b o n = some cs) : (ldR ⟨b, o, none⟩ n).run Tryd.prog w = .ok cs w := by
  obtain ⟨hn, hr⟩ := range_of_recAt h
  have := run_loadCells_list (P := Tryd.prog) w ⟨b, o, none⟩ cs.toList (fun j v hv => by rw [add_at]; exact hr j v hv)
  subst hn
  simpa [ldR] using this
@[go_sem] theorem run_ldC_row (w : World) (b o : Nat) (h : (recAt w b o 16).isSome = true) : (ldC ⟨b, o, none⟩).run Tryd.prog w = .ok ((recAt w b o 16).getD #[]) w := by
  obtain ⟨c, hc⟩ := Option.isSome_iff_exists.1 h
  rw [hc]; exact ldR_of hc
@[go_sem] theorem run_ldR (w : World) (b o n : Nat) (h : (recAt w b o n).isSome = true) : (ldR ⟨b, o, none⟩ n).run Tryd.prog w = .ok ((recAt w b o n).getD #[]) w := by
  obtain ⟨c, hc⟩ := Option.isSome_iff_exists.1 h
  rw [hc]; exact ldR_of hc
/-- A readable slice of records of k values each. -/
def RdRec (w : World) (A : Option Addr) (c k : Nat) (rs : List (Array Value)) : Prop := rs.length ≤ c ∧ (A = none → c = 0) ∧ (0 < rs.length → ∃ b off, A = some ⟨b, off, none⟩ ∧ b < w.heap.size ∧ ∀ (i : Nat) (r : Array Value), rs[i]? = some r → recAt w b (off + i * k) k = some r)
theorem RdRec.bel {w w' : World} {A : Option Addr} {c k : Nat} {rs : List (Array Value)} (h : RdRec w A c k rs) (hb : Below w.heap.size w w') : RdRec w' A c k rs := ⟨h.1, h.2.1, fun hn => by
  obtain ⟨b, off, rfl, hz, hr⟩ := h.2.2 hn
  exact ⟨b, off, rfl, by have := hb.size; omega, fun i r hi => (recAt_below hb hz _ _).trans (hr i r hi)⟩⟩
theorem RdRec.at_ {w : World} {A : Option Addr} {c k : Nat} {rs : List (Array Value)} (h : RdRec w A c k rs) {i : Nat} {r : Array Value} (hi : rs[i]? = some r) : ∃ b off, A = some ⟨b, off, none⟩ ∧ b < w.heap.size ∧ recAt w b (off + i * k) k = some r := by
  have hl := (List.getElem?_eq_some_iff.1 hi).1
  obtain ⟨b, off, rfl, hz, hr⟩ := h.2.2 (by omega)
  exact ⟨b, off, rfl, hz, hr i r hi⟩
end Go.Proofs.YtghahanpmcpacaaDoor

/-
  edit.change: its check, its rolling.
-/
set_option linter.unusedSimpArgs false
set_option linter.unusedVariables false
namespace Go.Proofs.YtghahanpmcpacaaDoor
open Go.RowKit

/-- A record stored into a block that is known whole. -/
theorem store_recE {P : Program} (w : World) (g : Nat) (t : TypeId) (zs cs : Array Value) (h : Blk w g t zs) (hz : zs.size = cs.size) (h1 : ∀ v ∈ cs.toList, v.oneCell' = true) : (storeCells ⟨g, 0, none⟩ cs.toList 0).run P w = .ok () (w.setRow g cs) := by
  have := run_storeCells_at (P := P) g 0 t cs.toList 0 zs w h (by simp [hz]) h1
  rw [this]
  simp [List.drop_eq_nil_of_le, hz]
structure Chg18 where
  g : Value
  row : Int
  col : Int
  pend : Bool
  top : Int
  bot : Int
  rows : Bool
  n : Int
  q : Pen
def ach (a : Chg18) : Array Value := #[a.g, .int .i64 a.row, .int .i64 a.col, .bool a.pend, .int .i64 a.top, .int .i64 a.bot, .bool a.rows, .int .i64 a.n, .int .i64 a.q.fk, .int .u8 a.q.fi, .int .u8 a.q.fr, .int .u8 a.q.fg, .int .u8 a.q.fb, .int .i64 a.q.bk, .int .u8 a.q.bi, .int .u8 a.q.br, .int .u8 a.q.bg, .int .u8 a.q.bb, .int .u8 a.q.fl]
@[go_sem] theorem ach_size (a : Chg18) : (ach a).size = 19 := by simp [ach]
@[simp high, go_sem high] theorem ach_get0 (a : Chg18) : (ach a)[0]? = some a.g := by simp [ach]
@[simp high, go_sem high] theorem ach_get1 (a : Chg18) : (ach a)[1]? = some (.int .i64 a.row) := by simp [ach]
@[simp high, go_sem high] theorem ach_get2 (a : Chg18) : (ach a)[2]? = some (.int .i64 a.col) := by simp [ach]
@[simp high, go_sem high] theorem ach_get3 (a : Chg18) : (ach a)[3]? = some (.bool a.pend) := by simp [ach]
@[simp high, go_sem high] theorem ach_get4 (a : Chg18) : (ach a)[4]? = some (.int .i64 a.top) := by simp [ach]
@[simp high, go_sem high] theorem ach_get5 (a : Chg18) : (ach a)[5]? = some (.int .i64 a.bot) := by simp [ach]
@[simp high, go_sem high] theorem ach_get6 (a : Chg18) : (ach a)[6]? = some (.bool a.rows) := by simp [ach]
@[simp high, go_sem high] theorem ach_get7 (a : Chg18) : (ach a)[7]? = some (.int .i64 a.n) := by simp [ach]
theorem ach_pen {w : World} {b o : Nat} {a : Chg18} (h : w.rangeAt b o (ach a).toList) : penAt w b (o + 8) = some a.q := penAt_of fun j v hv => by
  have := h (8 + j) v (by rw [← hv]; show ((ach a).toList)[8 + j]? = _; rw [← List.getElem?_drop]; rfl)
  rw [show o + 8 + j = o + (8 + j) by omega]; exact this
theorem Blk.ach_pen {w : World} {g : Nat} {t : TypeId} {a : Chg18} (h : Blk w g t (ach a)) : Proofs.YtghahanpmcpacaaDoor.penAt w g 8 = some a.q := by have := Proofs.YtghahanpmcpacaaDoor.ach_pen h.range; simpa using this
def errB (b : Bool) : Int := if b then 0 else 2
theorem eqIn_region (a b c d : Int) (w : World) : (Op.equalIn 10000 23 (.agg #[.int .i64 a, .int .i64 b]) (.agg #[.int .i64 c, .int .i64 d])).run Tryd.prog w = .ok (decide (a = c ∧ b = d)) w := by
  by_cases h0 : a = c
  case neg => simp [go_sem, h0]
  by_cases h1 : b = d
  case neg => simp [go_sem, h0, h1]
  simp [go_sem, h0, h1]
section
variable {w0 w : World} {os : List Ob} {k p cols : Nat} {L : List Ln}
theorem Objs.setBox2 (h : Objs w0 w os) {k g : Nat} {t : TypeId} {a b u v : Value} (hk : os[k]? = some (.box g t #[a, b])) : Objs w0 ((w.setCell ⟨g, 0, none⟩ u).setCell ⟨g, 1, none⟩ v) (os.set k (.box g t #[u, v])) := by
  have h1 := h.setBox k (i := 0) (u := u) hk
  have h2 := h1.setBox k (i := 1) (u := v) (g := g) (t := t) (cs := #[u, b]) (by rw [List.getElem?_set_self (List.getElem?_eq_some_iff.1 hk).1]; simp)
  simpa using h2
theorem Objs.setBox3 (h : Objs w0 w os) {k g : Nat} {t : TypeId} {a b c u v x : Value} (hk : os[k]? = some (.box g t #[a, b, c])) : Objs w0 (((w.setCell ⟨g, 0, none⟩ u).setCell ⟨g, 1, none⟩ v).setCell ⟨g, 2, none⟩ x) (os.set k (.box g t #[u, v, x])) := by
  have h1 := h.setBox k (i := 0) (u := u) hk
  have h2 := h1.setBox k (i := 1) (u := v) (g := g) (t := t) (cs := #[u, b, c]) (by rw [List.getElem?_set_self (List.getElem?_eq_some_iff.1 hk).1]; simp)
  have h3 := h2.setBox k (i := 2) (u := x) (g := g) (t := t) (cs := #[u, v, c]) (by rw [List.getElem?_set_self (by simpa using (List.getElem?_eq_some_iff.1 hk).1)]; simp)
  simpa using h3
theorem grid_blk {t : TypeId} (hS : Objs w0 w os) (hk : os[k]? = some (.grid p t cols L)) : ∃ A c, Blk w p t #[.int .i64 cols, .slice A L.length c] := by
  obtain ⟨A, c, hB, -, -⟩ := hS.gridRd hk; exact ⟨A, c, hB⟩
end
end Go.Proofs.YtghahanpmcpacaaDoor

/-
  InsertCells, DeleteCells, InsertLines, DeleteLines: done, refused, of no grid.
-/
set_option linter.unusedSimpArgs false
set_option linter.unusedVariables false
namespace Go.Proofs.YtghahanpmcpacaaDoor
open Go.RowKit

@[go_sem ↓] theorem load_ldR19 (a : Addr) : loadCellsFrom a 0 19 #[] = ldR a 19 := rfl
theorem ach_one (a : Chg18) (x : Option Addr) (h : a.g = .pointer x) : ∀ v ∈ (ach a).toList, v.oneCell' = true := by
  obtain ⟨g, r, c, pe, t, b, ro, n, q⟩ := a
  subst h
  simp [ach, Value.oneCell']
@[go_sem] theorem fill_ach (g : Value) (r c t b n : Int) (pe ro : Bool) (q : Pen) : Array.foldl (fun cs x => cs.setIfInBounds (8 + x.snd) x.fst) #[g, .int .i64 r, .int .i64 c, .bool pe, .int .i64 t, .int .i64 b, .bool ro, .int .i64 n, .int .i64 0, .int .u8 0, .int .u8 0, .int .u8 0, .int .u8 0, .int .i64 0, .int .u8 0, .int .u8 0, .int .u8 0, .int .u8 0, .int .u8 0] (pv q).zipIdx 0 11 = ach ⟨g, r, c, pe, t, b, ro, n, q⟩ := by kernel_rfl
theorem store_ach_newP {g : Nat} (w : World) (zs : Array Value) (a : Chg18) (x : Option Addr) (h1 : a.g = .pointer x) (hb : g = w.heap.size) (hz : zs.size = 19) :
    (storeCells ⟨g, 0, none⟩ (ach a).toList 0).run Tryd.prog (w.alloc (.cells zs 121)) = .ok () (w.alloc (.cells (ach a) 121)) := by
  subst hb
  have := store_recE (P := Tryd.prog) (w.alloc (.cells zs 121)) w.heap.size 121 zs (ach a) (Blk.new _ _ _) (by rw [hz, ach_size]) (ach_one a x h1)
  rw [this, World.setRow_alloc_new]
@[go_sem] theorem store_ach_new {g : Nat} (w : World) (zs : Array Value) (x : Option Addr) (r c t b n : Int) (pe ro : Bool) (q : Pen) (hb : g = w.heap.size) (hz : zs.size = 19) :
    (storeCells ⟨g, 0, none⟩ (ach ⟨.pointer x, r, c, pe, t, b, ro, n, q⟩).toList 0).run Tryd.prog (w.alloc (.cells zs 121)) = .ok () (w.alloc (.cells (ach ⟨.pointer x, r, c, pe, t, b, ro, n, q⟩) 121)) := store_ach_newP w zs _ x rfl hb hz
theorem Blk.ach {w : World} {g : Nat} {t : TypeId} {a : Chg18} (h : Blk w g t (Proofs.YtghahanpmcpacaaDoor.ach a)) : (∀ i, w.cell? ⟨g, i, none⟩ = (Proofs.YtghahanpmcpacaaDoor.ach a)[i]?) ∧ (∀ i, w.frozen? ⟨g, i, none⟩ = false) ∧ g < w.heap.size ∧ Proofs.YtghahanpmcpacaaDoor.recAt w g 0 19 = some (Proofs.YtghahanpmcpacaaDoor.ach a) ∧ Proofs.YtghahanpmcpacaaDoor.penAt w g 8 = some a.q :=
  ⟨h.cell, h.frozen, h.lt, h.recAt 19 (ach_size a), h.ach_pen⟩
/-- A grid that is not there: it has no rows, no columns. -/
def NoGrid (w : World) (gp : Value) : Prop := NoRows w gp ∧ ∀ w', Below w.heap.size w w' → Calls Tryd.prog 68 #[gp] w' fun e w2 => e = .returned (.int .i64 0) ∧ Below w'.heap.size w' w2
theorem NoGrid.bel {w w' : World} {gp : Value} (h : NoGrid w gp) (hb : Below w.heap.size w w') : NoGrid w' gp := ⟨h.1.bel hb, fun w2 hb2 => h.2 w2 (hb.trans (hb2.mono hb.size))⟩
section
variable {w0 w : World} {os : List Ob} {k p cols : Nat} {L : List Ln}
end
end Go.Proofs.YtghahanpmcpacaaDoor

/-
  region: which regions there are, the errors.
-/
set_option linter.unusedSimpArgs false
set_option linter.unusedVariables false
namespace Go.Proofs.YtghahanpmcpacaaDoor
open Go.RowKit

def regB (rows top bot : Int) : Bool := decide ((1 ≤ rows ∧ rows ≤ 1000) ∧ 0 ≤ top ∧ top ≤ bot ∧ bot < rows)
theorem eqIn_cursor (a b c d : Int) (x y : Bool) (w : World) : (Op.equalIn 10000 25 (.agg #[.int .i64 a, .int .i64 b, .bool x]) (.agg #[.int .i64 c, .int .i64 d, .bool y])).run Tryd.prog w = .ok (decide (a = c ∧ b = d ∧ x = y)) w := by
  by_cases h0 : a = c
  case neg => simp [go_sem, h0]
  by_cases h1 : b = d
  case neg => simp [go_sem, h0, h1]
  cases x <;> cases y <;> simp [go_sem, h0, h1]
set_option maxHeartbeats 1000000 in
theorem Right_any (rows top bot : Int) (w : World) : Calls Tryd.prog 34 #[.int .i64 rows, .agg #[.int .i64 top, .int .i64 bot]] w fun e w' => e = .returned (.bool (regB rows top bot)) ∧ Below w.heap.size w w' := by
  have no : ∀ h : ¬ ((1 ≤ rows ∧ rows ≤ 1000) ∧ 0 ≤ top ∧ top ≤ bot ∧ bot < rows), Hid (regB rows top bot = false) := fun h => Lib.hid (decide_eq_false h)
  by_cases h0 : 1 ≤ rows
  case neg =>
    have HE := no (by omega)
    have d0 : decide (1 ≤ rows) = false := decide_eq_false h0
    clear no
    go_enter Tryd.func34, Tryd.ntmps34
    go_wp2_with fail
    go_ret
    exact ⟨by rw [HE.out]; rfl, (Below.refl _ _).alloc (Nat.le_refl _) _⟩
  have d0 : decide (1 ≤ rows) = true := decide_eq_true h0
  by_cases h1 : rows ≤ 1000
  case neg =>
    have HE := no (by omega)
    have d1 : decide (rows ≤ 1000) = false := decide_eq_false h1
    clear no
    go_enter Tryd.func34, Tryd.ntmps34
    go_wp2_with fail
    go_ret
    exact ⟨by rw [HE.out]; rfl, (Below.refl _ _).alloc (Nat.le_refl _) _⟩
  have d1 : decide (rows ≤ 1000) = true := decide_eq_true h1
  by_cases h2 : 0 ≤ top
  case neg =>
    have HE := no (by omega)
    have d2 : decide (0 ≤ top) = false := decide_eq_false h2
    clear no
    go_enter Tryd.func34, Tryd.ntmps34
    go_wp2_with fail
    go_ret
    exact ⟨by rw [HE.out]; rfl, (Below.refl _ _).alloc (Nat.le_refl _) _⟩
  have d2 : decide (0 ≤ top) = true := decide_eq_true h2
  by_cases h3 : top ≤ bot
  case neg =>
    have HE := no (by omega)
    have d3 : decide (top ≤ bot) = false := decide_eq_false h3
    clear no
    go_enter Tryd.func34, Tryd.ntmps34
    go_wp2_with fail
    go_ret
    exact ⟨by rw [HE.out]; rfl, (Below.refl _ _).alloc (Nat.le_refl _) _⟩
  have d3 : decide (top ≤ bot) = true := decide_eq_true h3
  by_cases h4 : bot < rows
  case neg =>
    have HE := no (by omega)
    have d4 : decide (bot < rows) = false := decide_eq_false h4
    clear no
    go_enter Tryd.func34, Tryd.ntmps34
    go_wp2_with fail
    go_ret
    exact ⟨by rw [HE.out]; rfl, (Below.refl _ _).alloc (Nat.le_refl _) _⟩
  have d4 : decide (bot < rows) = true := decide_eq_true h4
  have HE := Lib.hid (show regB rows top bot = true from decide_eq_true ⟨⟨h0, h1⟩, h2, h3, h4⟩)
  clear no
  go_enter Tryd.func34, Tryd.ntmps34
  go_wp2_with fail
  go_ret
  exact ⟨by rw [HE.out]; rfl, (Below.refl _ _).alloc (Nat.le_refl _) _⟩
set_option maxHeartbeats 1000000 in
theorem r19Right_any (rows top bot : Int) (w : World) : Calls Tryd.prog 27 #[.int .i64 rows, .agg #[.int .i64 top, .int .i64 bot]] w fun e w' => e = .returned (.bool (regB rows top bot)) ∧ Below w.heap.size w w' := by
  have no : ∀ h : ¬ ((1 ≤ rows ∧ rows ≤ 1000) ∧ 0 ≤ top ∧ top ≤ bot ∧ bot < rows), Hid (regB rows top bot = false) := fun h => Lib.hid (decide_eq_false h)
  by_cases h0 : 1 ≤ rows
  case neg =>
    have HE := no (by omega)
    have d0 : decide (1 ≤ rows) = false := decide_eq_false h0
    clear no
    go_enter Tryd.func27, Tryd.ntmps27
    go_wp2_with fail
    go_ret
    exact ⟨by rw [HE.out]; rfl, (Below.refl _ _).alloc (Nat.le_refl _) _⟩
  have d0 : decide (1 ≤ rows) = true := decide_eq_true h0
  by_cases h1 : rows ≤ 1000
  case neg =>
    have HE := no (by omega)
    have d1 : decide (rows ≤ 1000) = false := decide_eq_false h1
    clear no
    go_enter Tryd.func27, Tryd.ntmps27
    go_wp2_with fail
    go_ret
    exact ⟨by rw [HE.out]; rfl, (Below.refl _ _).alloc (Nat.le_refl _) _⟩
  have d1 : decide (rows ≤ 1000) = true := decide_eq_true h1
  by_cases h2 : 0 ≤ top
  case neg =>
    have HE := no (by omega)
    have d2 : decide (0 ≤ top) = false := decide_eq_false h2
    clear no
    go_enter Tryd.func27, Tryd.ntmps27
    go_wp2_with fail
    go_ret
    exact ⟨by rw [HE.out]; rfl, (Below.refl _ _).alloc (Nat.le_refl _) _⟩
  have d2 : decide (0 ≤ top) = true := decide_eq_true h2
  by_cases h3 : top ≤ bot
  case neg =>
    have HE := no (by omega)
    have d3 : decide (top ≤ bot) = false := decide_eq_false h3
    clear no
    go_enter Tryd.func27, Tryd.ntmps27
    go_wp2_with fail
    go_ret
    exact ⟨by rw [HE.out]; rfl, (Below.refl _ _).alloc (Nat.le_refl _) _⟩
  have d3 : decide (top ≤ bot) = true := decide_eq_true h3
  by_cases h4 : bot < rows
  case neg =>
    have HE := no (by omega)
    have d4 : decide (bot < rows) = false := decide_eq_false h4
    clear no
    go_enter Tryd.func27, Tryd.ntmps27
    go_wp2_with fail
    go_ret
    exact ⟨by rw [HE.out]; rfl, (Below.refl _ _).alloc (Nat.le_refl _) _⟩
  have d4 : decide (bot < rows) = true := decide_eq_true h4
  have HE := Lib.hid (show regB rows top bot = true from decide_eq_true ⟨⟨h0, h1⟩, h2, h3, h4⟩)
  clear no
  go_enter Tryd.func27, Tryd.ntmps27
  go_wp2_with fail
  go_ret
  exact ⟨by rw [HE.out]; rfl, (Below.refl _ _).alloc (Nat.le_refl _) _⟩
theorem Right_is {rows top bot : Int} {b : Bool} (h : regB rows top bot = b) (w : World) : Calls Tryd.prog 34 #[.int .i64 rows, .agg #[.int .i64 top, .int .i64 bot]] w fun e w' => e = .returned (.bool b) ∧ Below w.heap.size w w' := h ▸ Right_any rows top bot w
theorem r19Right_is {rows top bot : Int} {b : Bool} (h : regB rows top bot = b) (w : World) : Calls Tryd.prog 27 #[.int .i64 rows, .agg #[.int .i64 top, .int .i64 bot]] w fun e w' => e = .returned (.bool b) ∧ Below w.heap.size w w' := h ▸ r19Right_any rows top bot w
section
variable {w0 w : World} {os : List Ob} {k p cols : Nat} {L : List Ln}
set_option maxHeartbeats 2000000 in
theorem rgcheck_any {top bot : Int} {b : Bool} (hS : Objs w0 w os) (hk : os[k]? = some (.grid p 37 cols L)) (hL : 0 < L.length) (hb : regB L.length top bot = b) :
    Calls Tryd.prog 36 #[.pointer (some ⟨p, 0, none⟩), .agg #[.int .i64 top, .int .i64 bot]] w fun e w' => e = .returned (.int .i64 (errB b)) ∧ Objs w0 w' os := by
  have S := Lib.hid hS
  have HK := Lib.hid hk
  have hl0 : ((L.length : Int) == 0) = false := by simp; intro h; rw [h] at hL; simp at hL
  clear hS hk
  cases b with
  | false =>
    have HB := Lib.hid hb
    clear hb
    go_enter Tryd.func36, Tryd.ntmps36
    go_upto_region 1 with (fail)
    refine at_objsC S.out.alloc1 (fun W hW => ?_)
    have S1 := Lib.hid hW
    clear hW S
    go_wp2_with fail
    refine (Rows_any S1.out (k := k + 1) HK.out).mono ?_
    rintro e w1 ⟨rfl, hS⟩
    obtain ⟨hx3, hf3, hz3⟩ := (hS.box (k := 0) rfl).facts
    have S2 := Lib.hid hS
    obtain ⟨A9, c9, hB9⟩ := grid_blk hS (k := k + 1) HK.out
    have HBL := Lib.hid hB9
    clear hS hB9 S1
    go_wp2_with fail
    refine wp_region_below (by kernel_rfl) (by kernel_rfl) ?_
    repeat (go_big_quiet_step (first | (go_at_call 39; exact quiet_below (Rows_b (HBL.out.bel (below_plus _ _)))) | (go_at_call 34; exact quiet_below (Right_is HB.out _))))
    refine wpQuiet_nil ?_
    intro w2 hb2
    have S3 := Lib.hid (S2.out.bel hb2)
    clear hx3 hf3 hz3 hb2
    go_wp2_with fail
    go_ret
    exact ⟨rfl, S3.out.tail⟩
  | true =>
    have HB := Lib.hid hb
    clear hb
    go_enter Tryd.func36, Tryd.ntmps36
    go_upto_region 1 with (fail)
    refine at_objsC S.out.alloc1 (fun W hW => ?_)
    have S1 := Lib.hid hW
    clear hW S
    go_wp2_with fail
    refine (Rows_any S1.out (k := k + 1) HK.out).mono ?_
    rintro e w1 ⟨rfl, hS⟩
    obtain ⟨hx3, hf3, hz3⟩ := (hS.box (k := 0) rfl).facts
    have S2 := Lib.hid hS
    obtain ⟨A9, c9, hB9⟩ := grid_blk hS (k := k + 1) HK.out
    have HBL := Lib.hid hB9
    clear hS hB9 S1
    go_wp2_with fail
    refine wp_region_below (by kernel_rfl) (by kernel_rfl) ?_
    repeat (go_big_quiet_step (first | (go_at_call 39; exact quiet_below (Rows_b (HBL.out.bel (below_plus _ _)))) | (go_at_call 34; exact quiet_below (Right_is HB.out _))))
    refine wpQuiet_nil ?_
    intro w2 hb2
    have S3 := Lib.hid (S2.out.bel hb2)
    clear hx3 hf3 hz3 hb2
    go_wp2_with fail
    go_ret
    exact ⟨rfl, S3.out.tail⟩
set_option maxHeartbeats 4000000 in
theorem rgat_noreg {top bot row col : Int} {pend : Bool} (q : Pen) (hT : Tabs w0) (hS : Objs w0 w os) (hk : os[k]? = some (.grid p 37 cols L)) (hc : 0 < cols) (hcm : cols ≤ 1000) (hL : 0 < L.length) (hreg : regB L.length top bot = false) :
    Calls Tryd.prog 38 #[.pointer (some ⟨p, 0, none⟩), .agg #[.int .i64 top, .int .i64 bot], .agg #[.int .i64 row, .int .i64 col, .bool pend], .agg (pv q)] w fun e w' => e = .returned (.int .i64 2) ∧ Objs w0 w' os := by
  have S := Lib.hid hS
  have HT := Lib.hid hT
  have HK := Lib.hid hk
  have HWC := Lib.hid (show IntKind.i64.wrap ((cols : Int) - 1) = (cols : Int) - 1 from IntWalk.i64_in _ (by omega))
  have HREG := Lib.hid (hreg)
  clear hS hT hk
  go_enter Tryd.func38, Tryd.ntmps38
  go_upto_region 1 with (fail)
  refine at_objsC S.out.alloc3 (fun W hW => ?_)
  obtain ⟨hx5, hf5, hz5⟩ := (hW.box (k := 2) rfl).facts
  have SW := Lib.hid hW
  clear hW S
  go_wp2_with fail
  refine (rgcheck_any SW.out (k := k + 3) HK.out hL HREG.out).mono ?_
  simp only [errB, if_true, Bool.false_eq_true, if_false]
  rintro e w1 ⟨rfl, hS⟩
  have S1 := Lib.hid hS
  clear hS SW hx5 hf5 hz5
  go_wp2_with fail
  go_ret
  exact ⟨rfl, S1.out.tail.tail.tail⟩
set_option maxHeartbeats 4000000 in
theorem rgat_out {top bot row col : Int} {pend : Bool} (q : Pen) (hT : Tabs w0) (hS : Objs w0 w os) (hk : os[k]? = some (.grid p 37 cols L)) (hc : 0 < cols) (hcm : cols ≤ 1000) (hL : 0 < L.length) (hreg : regB L.length top bot = true) (hin : inG row col pend L.length cols = false) :
    Calls Tryd.prog 38 #[.pointer (some ⟨p, 0, none⟩), .agg #[.int .i64 top, .int .i64 bot], .agg #[.int .i64 row, .int .i64 col, .bool pend], .agg (pv q)] w fun e w' => e = .returned (.int .i64 2) ∧ Objs w0 w' os := by
  have S := Lib.hid hS
  have HT := Lib.hid hT
  have HK := Lib.hid hk
  have HWC := Lib.hid (show IntKind.i64.wrap ((cols : Int) - 1) = (cols : Int) - 1 from IntWalk.i64_in _ (by omega))
  have HREG := Lib.hid (hreg)
  clear hS hT hk
  have hno : ¬ ((0 ≤ row ∧ row < L.length) ∧ (0 ≤ col ∧ col < cols) ∧ (pend = true → col = (cols : Int) - 1)) := fun h => by rw [ingrid_iff.2 h] at hin; cases hin
  clear hin
  by_cases h1 : row < 0
  · have d1 : decide (row < 0) = true := decide_eq_true h1
    go_enter Tryd.func38, Tryd.ntmps38
    go_upto_region 1 with (fail)
    refine at_objsC S.out.alloc3 (fun W hW => ?_)
    obtain ⟨hx5, hf5, hz5⟩ := (hW.box (k := 2) rfl).facts
    have SW := Lib.hid hW
    clear hW S
    go_wp2_with fail
    refine (rgcheck_any SW.out (k := k + 3) HK.out hL HREG.out).mono ?_
    simp only [errB, if_true, Bool.false_eq_true, if_false]
    rintro e w1 ⟨rfl, hS⟩
    have S1 := Lib.hid hS
    clear hS SW hx5 hf5 hz5
    obtain ⟨hx6, hf6, hz6⟩ := (S1.out.box (k := 1) rfl).facts
    obtain ⟨A9, c9, hB9⟩ := grid_blk S1.out (k := k + 3) HK.out
    have HBL := Lib.hid hB9
    clear hB9
    have hwc := HWC.out
    go_wp2_with fail
    refine wp_region_below (by kernel_rfl) (by kernel_rfl) ?_
    repeat (go_big_quiet_step (first | (go_at_call 39; exact quiet_below (Rows_b (HBL.out.bel (below_plus _ _)))) | (go_at_call 68; exact quiet_below (Cols_b (HBL.out.bel (below_plus _ _))))))
    refine wpQuiet_nil ?_
    intro w2 hb2
    have S2 := Lib.hid (S1.out.bel hb2)
    clear hb2 hx6 hf6 hz6 HBL hwc
    go_wp2_with fail
    go_ret
    exact ⟨rfl, S2.out.tail.tail.tail⟩
  have d1 : decide (row < 0) = false := decide_eq_false h1
  by_cases h2 : (L.length : Int) ≤ row
  · have d2 : decide ((L.length : Int) ≤ row) = true := decide_eq_true h2
    go_enter Tryd.func38, Tryd.ntmps38
    go_upto_region 1 with (fail)
    refine at_objsC S.out.alloc3 (fun W hW => ?_)
    obtain ⟨hx5, hf5, hz5⟩ := (hW.box (k := 2) rfl).facts
    have SW := Lib.hid hW
    clear hW S
    go_wp2_with fail
    refine (rgcheck_any SW.out (k := k + 3) HK.out hL HREG.out).mono ?_
    simp only [errB, if_true, Bool.false_eq_true, if_false]
    rintro e w1 ⟨rfl, hS⟩
    have S1 := Lib.hid hS
    clear hS SW hx5 hf5 hz5
    obtain ⟨hx6, hf6, hz6⟩ := (S1.out.box (k := 1) rfl).facts
    obtain ⟨A9, c9, hB9⟩ := grid_blk S1.out (k := k + 3) HK.out
    have HBL := Lib.hid hB9
    clear hB9
    have hwc := HWC.out
    go_wp2_with fail
    refine wp_region_below (by kernel_rfl) (by kernel_rfl) ?_
    repeat (go_big_quiet_step (first | (go_at_call 39; exact quiet_below (Rows_b (HBL.out.bel (below_plus _ _)))) | (go_at_call 68; exact quiet_below (Cols_b (HBL.out.bel (below_plus _ _))))))
    refine wpQuiet_nil ?_
    intro w2 hb2
    have S2 := Lib.hid (S1.out.bel hb2)
    clear hb2 hx6 hf6 hz6 HBL hwc
    go_wp2_with fail
    go_ret
    exact ⟨rfl, S2.out.tail.tail.tail⟩
  have d2 : decide ((L.length : Int) ≤ row) = false := decide_eq_false h2
  by_cases h3 : col < 0
  · have d3 : decide (col < 0) = true := decide_eq_true h3
    go_enter Tryd.func38, Tryd.ntmps38
    go_upto_region 1 with (fail)
    refine at_objsC S.out.alloc3 (fun W hW => ?_)
    obtain ⟨hx5, hf5, hz5⟩ := (hW.box (k := 2) rfl).facts
    have SW := Lib.hid hW
    clear hW S
    go_wp2_with fail
    refine (rgcheck_any SW.out (k := k + 3) HK.out hL HREG.out).mono ?_
    simp only [errB, if_true, Bool.false_eq_true, if_false]
    rintro e w1 ⟨rfl, hS⟩
    have S1 := Lib.hid hS
    clear hS SW hx5 hf5 hz5
    obtain ⟨hx6, hf6, hz6⟩ := (S1.out.box (k := 1) rfl).facts
    obtain ⟨A9, c9, hB9⟩ := grid_blk S1.out (k := k + 3) HK.out
    have HBL := Lib.hid hB9
    clear hB9
    have hwc := HWC.out
    go_wp2_with fail
    refine wp_region_below (by kernel_rfl) (by kernel_rfl) ?_
    repeat (go_big_quiet_step (first | (go_at_call 39; exact quiet_below (Rows_b (HBL.out.bel (below_plus _ _)))) | (go_at_call 68; exact quiet_below (Cols_b (HBL.out.bel (below_plus _ _))))))
    refine wpQuiet_nil ?_
    intro w2 hb2
    have S2 := Lib.hid (S1.out.bel hb2)
    clear hb2 hx6 hf6 hz6 HBL hwc
    go_wp2_with fail
    go_ret
    exact ⟨rfl, S2.out.tail.tail.tail⟩
  have d3 : decide (col < 0) = false := decide_eq_false h3
  by_cases h4 : (cols : Int) ≤ col
  · have d4 : decide ((cols : Int) ≤ col) = true := decide_eq_true h4
    go_enter Tryd.func38, Tryd.ntmps38
    go_upto_region 1 with (fail)
    refine at_objsC S.out.alloc3 (fun W hW => ?_)
    obtain ⟨hx5, hf5, hz5⟩ := (hW.box (k := 2) rfl).facts
    have SW := Lib.hid hW
    clear hW S
    go_wp2_with fail
    refine (rgcheck_any SW.out (k := k + 3) HK.out hL HREG.out).mono ?_
    simp only [errB, if_true, Bool.false_eq_true, if_false]
    rintro e w1 ⟨rfl, hS⟩
    have S1 := Lib.hid hS
    clear hS SW hx5 hf5 hz5
    obtain ⟨hx6, hf6, hz6⟩ := (S1.out.box (k := 1) rfl).facts
    obtain ⟨A9, c9, hB9⟩ := grid_blk S1.out (k := k + 3) HK.out
    have HBL := Lib.hid hB9
    clear hB9
    have hwc := HWC.out
    go_wp2_with fail
    refine wp_region_below (by kernel_rfl) (by kernel_rfl) ?_
    repeat (go_big_quiet_step (first | (go_at_call 39; exact quiet_below (Rows_b (HBL.out.bel (below_plus _ _)))) | (go_at_call 68; exact quiet_below (Cols_b (HBL.out.bel (below_plus _ _))))))
    refine wpQuiet_nil ?_
    intro w2 hb2
    have S2 := Lib.hid (S1.out.bel hb2)
    clear hb2 hx6 hf6 hz6 HBL hwc
    go_wp2_with fail
    go_ret
    exact ⟨rfl, S2.out.tail.tail.tail⟩
  have d4 : decide ((cols : Int) ≤ col) = false := decide_eq_false h4
  cases pend with
  | false => exact absurd ⟨⟨by omega, by omega⟩, ⟨by omega, by omega⟩, fun h => by cases h⟩ hno
  | true =>
    have h5 : ¬ col = (cols : Int) - 1 := fun h => hno ⟨⟨by omega, by omega⟩, ⟨by omega, by omega⟩, fun _ => h⟩
    have h5b := bne_yes h5
    clear hno
    go_enter Tryd.func38, Tryd.ntmps38
    go_upto_region 1 with (fail)
    refine at_objsC S.out.alloc3 (fun W hW => ?_)
    obtain ⟨hx5, hf5, hz5⟩ := (hW.box (k := 2) rfl).facts
    have SW := Lib.hid hW
    clear hW S
    go_wp2_with fail
    refine (rgcheck_any SW.out (k := k + 3) HK.out hL HREG.out).mono ?_
    simp only [errB, if_true, Bool.false_eq_true, if_false]
    rintro e w1 ⟨rfl, hS⟩
    have S1 := Lib.hid hS
    clear hS SW hx5 hf5 hz5
    obtain ⟨hx6, hf6, hz6⟩ := (S1.out.box (k := 1) rfl).facts
    obtain ⟨A9, c9, hB9⟩ := grid_blk S1.out (k := k + 3) HK.out
    have HBL := Lib.hid hB9
    clear hB9
    have hwc := HWC.out
    go_wp2_with fail
    refine wp_region_below (by kernel_rfl) (by kernel_rfl) ?_
    repeat (go_big_quiet_step (first | (go_at_call 39; exact quiet_below (Rows_b (HBL.out.bel (below_plus _ _)))) | (go_at_call 68; exact quiet_below (Cols_b (HBL.out.bel (below_plus _ _))))))
    refine wpQuiet_nil ?_
    intro w2 hb2
    have S2 := Lib.hid (S1.out.bel hb2)
    clear hb2 hx6 hf6 hz6 HBL hwc
    go_wp2_with fail
    go_ret
    exact ⟨rfl, S2.out.tail.tail.tail⟩
set_option maxHeartbeats 4000000 in
theorem rgat_fine {top bot row col : Int} {pend : Bool} (q : Pen) (hT : Tabs w0) (hS : Objs w0 w os) (hk : os[k]? = some (.grid p 37 cols L)) (hc : 0 < cols) (hcm : cols ≤ 1000) (hL : 0 < L.length) (hreg : regB L.length top bot = true) (hin : inG row col pend L.length cols = true) (hq : q.ok = true) :
    Calls Tryd.prog 38 #[.pointer (some ⟨p, 0, none⟩), .agg #[.int .i64 top, .int .i64 bot], .agg #[.int .i64 row, .int .i64 col, .bool pend], .agg (pv q)] w fun e w' => e = .returned (.int .i64 0) ∧ Objs w0 w' os := by
  have S := Lib.hid hS
  have HT := Lib.hid hT
  have HK := Lib.hid hk
  have HWC := Lib.hid (show IntKind.i64.wrap ((cols : Int) - 1) = (cols : Int) - 1 from IntWalk.i64_in _ (by omega))
  have HREG := Lib.hid (hreg)
  clear hS hT hk
  have HG := Lib.hid (show 0 ≤ top ∧ top ≤ bot ∧ bot < L.length from (of_decide_eq_true hreg).2)
  have HQ := Lib.hid hq
  obtain ⟨⟨i1, i2⟩, ⟨i3, i4⟩, i5⟩ := ingrid_iff.1 hin
  have d1 : decide (row < 0) = false := decide_eq_false (by omega)
  have d2 : decide ((L.length : Int) ≤ row) = false := decide_eq_false (by omega)
  have d3 : decide (col < 0) = false := decide_eq_false (by omega)
  have d4 : decide ((cols : Int) ≤ col) = false := decide_eq_false (by omega)
  clear hin hq hreg
  cases pend with
  | false =>
    clear i5
    go_enter Tryd.func38, Tryd.ntmps38
    go_upto_region 1 with (fail)
    refine at_objsC S.out.alloc3 (fun W hW => ?_)
    obtain ⟨hx5, hf5, hz5⟩ := (hW.box (k := 2) rfl).facts
    have SW := Lib.hid hW
    clear hW S
    go_wp2_with fail
    refine (rgcheck_any SW.out (k := k + 3) HK.out hL HREG.out).mono ?_
    simp only [errB, if_true, Bool.false_eq_true, if_false]
    rintro e w1 ⟨rfl, hS⟩
    have S1 := Lib.hid hS
    clear hS SW hx5 hf5 hz5
    obtain ⟨hx6, hf6, hz6⟩ := (S1.out.box (k := 1) rfl).facts
    obtain ⟨A9, c9, hB9⟩ := grid_blk S1.out (k := k + 3) HK.out
    have HBL := Lib.hid hB9
    clear hB9
    have hwc := HWC.out
    go_wp2_with fail
    refine wp_region_below (by kernel_rfl) (by kernel_rfl) ?_
    repeat (go_big_quiet_step (first | (go_at_call 39; exact quiet_below (Rows_b (HBL.out.bel (below_plus _ _)))) | (go_at_call 68; exact quiet_below (Cols_b (HBL.out.bel (below_plus _ _))))))
    refine wpQuiet_nil ?_
    intro w2 hb2
    have S2 := Lib.hid (S1.out.bel hb2)
    clear hb2 hx6 hf6 hz6 HBL hwc
    obtain ⟨hx5, hf5, hz5⟩ := (S2.out.box (k := 2) rfl).facts
    have hp7 := (S2.out.box (k := 0) rfl).penAt
    have hz7 := (S2.out.box (k := 0) rfl).lt
    go_wp2_with fail
    refine (Roll_zero (n := 0) q HT.out S2.out (k := k + 3) HK.out hc HG.out HQ.out rfl).mono ?_
    rintro e w3 ⟨rfl, hS⟩
    have S3 := Lib.hid hS
    clear hS S2 hx5 hf5 hz5 hp7 hz7
    go_wp2_with fail
    go_ret
    exact ⟨rfl, S3.out.tail.tail.tail⟩
  | true =>
    have h5b := bne_no (i5 rfl)
    clear i5
    go_enter Tryd.func38, Tryd.ntmps38
    go_upto_region 1 with (fail)
    refine at_objsC S.out.alloc3 (fun W hW => ?_)
    obtain ⟨hx5, hf5, hz5⟩ := (hW.box (k := 2) rfl).facts
    have SW := Lib.hid hW
    clear hW S
    go_wp2_with fail
    refine (rgcheck_any SW.out (k := k + 3) HK.out hL HREG.out).mono ?_
    simp only [errB, if_true, Bool.false_eq_true, if_false]
    rintro e w1 ⟨rfl, hS⟩
    have S1 := Lib.hid hS
    clear hS SW hx5 hf5 hz5
    obtain ⟨hx6, hf6, hz6⟩ := (S1.out.box (k := 1) rfl).facts
    obtain ⟨A9, c9, hB9⟩ := grid_blk S1.out (k := k + 3) HK.out
    have HBL := Lib.hid hB9
    clear hB9
    have hwc := HWC.out
    go_wp2_with fail
    refine wp_region_below (by kernel_rfl) (by kernel_rfl) ?_
    repeat (go_big_quiet_step (first | (go_at_call 39; exact quiet_below (Rows_b (HBL.out.bel (below_plus _ _)))) | (go_at_call 68; exact quiet_below (Cols_b (HBL.out.bel (below_plus _ _))))))
    refine wpQuiet_nil ?_
    intro w2 hb2
    have S2 := Lib.hid (S1.out.bel hb2)
    clear hb2 hx6 hf6 hz6 HBL hwc
    obtain ⟨hx5, hf5, hz5⟩ := (S2.out.box (k := 2) rfl).facts
    have hp7 := (S2.out.box (k := 0) rfl).penAt
    have hz7 := (S2.out.box (k := 0) rfl).lt
    go_wp2_with fail
    refine (Roll_zero (n := 0) q HT.out S2.out (k := k + 3) HK.out hc HG.out HQ.out rfl).mono ?_
    rintro e w3 ⟨rfl, hS⟩
    have S3 := Lib.hid hS
    clear hS S2 hx5 hf5 hz5 hp7 hz7
    go_wp2_with fail
    go_ret
    exact ⟨rfl, S3.out.tail.tail.tail⟩
set_option maxHeartbeats 4000000 in
theorem rgat_pen {top bot row col : Int} {pend : Bool} (q : Pen) (hT : Tabs w0) (hS : Objs w0 w os) (hk : os[k]? = some (.grid p 37 cols L)) (hc : 0 < cols) (hcm : cols ≤ 1000) (hL : 0 < L.length) (hreg : regB L.length top bot = true) (hin : inG row col pend L.length cols = true) (hq : q.ok = false) :
    Calls Tryd.prog 38 #[.pointer (some ⟨p, 0, none⟩), .agg #[.int .i64 top, .int .i64 bot], .agg #[.int .i64 row, .int .i64 col, .bool pend], .agg (pv q)] w fun e w' => e = .returned (.int .i64 2) ∧ Objs w0 w' os := by
  have S := Lib.hid hS
  have HT := Lib.hid hT
  have HK := Lib.hid hk
  have HWC := Lib.hid (show IntKind.i64.wrap ((cols : Int) - 1) = (cols : Int) - 1 from IntWalk.i64_in _ (by omega))
  have HREG := Lib.hid (hreg)
  clear hS hT hk
  have HG := Lib.hid (show 0 ≤ top ∧ top ≤ bot ∧ bot < L.length from (of_decide_eq_true hreg).2)
  have HQ := Lib.hid hq
  obtain ⟨⟨i1, i2⟩, ⟨i3, i4⟩, i5⟩ := ingrid_iff.1 hin
  have d1 : decide (row < 0) = false := decide_eq_false (by omega)
  have d2 : decide ((L.length : Int) ≤ row) = false := decide_eq_false (by omega)
  have d3 : decide (col < 0) = false := decide_eq_false (by omega)
  have d4 : decide ((cols : Int) ≤ col) = false := decide_eq_false (by omega)
  clear hin hq hreg
  cases pend with
  | false =>
    clear i5
    go_enter Tryd.func38, Tryd.ntmps38
    go_upto_region 1 with (fail)
    refine at_objsC S.out.alloc3 (fun W hW => ?_)
    obtain ⟨hx5, hf5, hz5⟩ := (hW.box (k := 2) rfl).facts
    have SW := Lib.hid hW
    clear hW S
    go_wp2_with fail
    refine (rgcheck_any SW.out (k := k + 3) HK.out hL HREG.out).mono ?_
    simp only [errB, if_true, Bool.false_eq_true, if_false]
    rintro e w1 ⟨rfl, hS⟩
    have S1 := Lib.hid hS
    clear hS SW hx5 hf5 hz5
    obtain ⟨hx6, hf6, hz6⟩ := (S1.out.box (k := 1) rfl).facts
    obtain ⟨A9, c9, hB9⟩ := grid_blk S1.out (k := k + 3) HK.out
    have HBL := Lib.hid hB9
    clear hB9
    have hwc := HWC.out
    go_wp2_with fail
    refine wp_region_below (by kernel_rfl) (by kernel_rfl) ?_
    repeat (go_big_quiet_step (first | (go_at_call 39; exact quiet_below (Rows_b (HBL.out.bel (below_plus _ _)))) | (go_at_call 68; exact quiet_below (Cols_b (HBL.out.bel (below_plus _ _))))))
    refine wpQuiet_nil ?_
    intro w2 hb2
    have S2 := Lib.hid (S1.out.bel hb2)
    clear hb2 hx6 hf6 hz6 HBL hwc
    obtain ⟨hx5, hf5, hz5⟩ := (S2.out.box (k := 2) rfl).facts
    have hp7 := (S2.out.box (k := 0) rfl).penAt
    have hz7 := (S2.out.box (k := 0) rfl).lt
    go_wp2_with fail
    refine (Roll_pen (n := 0) q HT.out S2.out (k := k + 3) HK.out hc HG.out HQ.out).mono ?_
    rintro e w3 ⟨rfl, hS⟩
    have S3 := Lib.hid hS
    clear hS S2 hx5 hf5 hz5 hp7 hz7
    go_wp2_with fail
    go_ret
    exact ⟨rfl, S3.out.tail.tail.tail⟩
  | true =>
    have h5b := bne_no (i5 rfl)
    clear i5
    go_enter Tryd.func38, Tryd.ntmps38
    go_upto_region 1 with (fail)
    refine at_objsC S.out.alloc3 (fun W hW => ?_)
    obtain ⟨hx5, hf5, hz5⟩ := (hW.box (k := 2) rfl).facts
    have SW := Lib.hid hW
    clear hW S
    go_wp2_with fail
    refine (rgcheck_any SW.out (k := k + 3) HK.out hL HREG.out).mono ?_
    simp only [errB, if_true, Bool.false_eq_true, if_false]
    rintro e w1 ⟨rfl, hS⟩
    have S1 := Lib.hid hS
    clear hS SW hx5 hf5 hz5
    obtain ⟨hx6, hf6, hz6⟩ := (S1.out.box (k := 1) rfl).facts
    obtain ⟨A9, c9, hB9⟩ := grid_blk S1.out (k := k + 3) HK.out
    have HBL := Lib.hid hB9
    clear hB9
    have hwc := HWC.out
    go_wp2_with fail
    refine wp_region_below (by kernel_rfl) (by kernel_rfl) ?_
    repeat (go_big_quiet_step (first | (go_at_call 39; exact quiet_below (Rows_b (HBL.out.bel (below_plus _ _)))) | (go_at_call 68; exact quiet_below (Cols_b (HBL.out.bel (below_plus _ _))))))
    refine wpQuiet_nil ?_
    intro w2 hb2
    have S2 := Lib.hid (S1.out.bel hb2)
    clear hb2 hx6 hf6 hz6 HBL hwc
    obtain ⟨hx5, hf5, hz5⟩ := (S2.out.box (k := 2) rfl).facts
    have hp7 := (S2.out.box (k := 0) rfl).penAt
    have hz7 := (S2.out.box (k := 0) rfl).lt
    go_wp2_with fail
    refine (Roll_pen (n := 0) q HT.out S2.out (k := k + 3) HK.out hc HG.out HQ.out).mono ?_
    rintro e w3 ⟨rfl, hS⟩
    have S3 := Lib.hid hS
    clear hS S2 hx5 hf5 hz5 hp7 hz7
    go_wp2_with fail
    go_ret
    exact ⟨rfl, S3.out.tail.tail.tail⟩
/-- The error of a grid, a region, a cursor and a pen. -/
theorem rgat_no {top bot row col : Int} {pend : Bool} (q : Pen) (hT : Tabs w0) (hS : Objs w0 w os) (hk : os[k]? = some (.grid p 37 cols L)) (hc : 0 < cols) (hcm : cols ≤ 1000) (hL : 0 < L.length) (hno : ¬ (regB L.length top bot = true ∧ inG row col pend L.length cols = true ∧ q.ok = true)) :
    Calls Tryd.prog 38 #[.pointer (some ⟨p, 0, none⟩), .agg #[.int .i64 top, .int .i64 bot], .agg #[.int .i64 row, .int .i64 col, .bool pend], .agg (pv q)] w fun e w' => e = .returned (.int .i64 2) ∧ Objs w0 w' os := by
  cases h1 : regB L.length top bot with
  | false => exact rgat_noreg q hT hS hk hc hcm hL h1
  | true =>
    cases h2 : inG row col pend L.length cols with
    | false => exact rgat_out q hT hS hk hc hcm hL h1 h2
    | true => exact rgat_pen q hT hS hk hc hcm hL h1 h2 (by cases h3 : q.ok with | false => rfl | true => exact absurd ⟨h1, h2, h3⟩ hno)
end
end Go.Proofs.YtghahanpmcpacaaDoor

/-
  region: scrolling up and down.
-/
set_option linter.unusedSimpArgs false
set_option linter.unusedVariables false
namespace Go.Proofs.YtghahanpmcpacaaDoor
open Go.RowKit

theorem loadVar_blk {P : Program} {w : World} {g : Nat} {t ty : TypeId} {cs : Array Value} {d : TypeDesc} (h : Blk w g t cs) (hu : P.underlying ty = some d) (hd : (match d with | .struct _ | .array _ _ => true | _ => false) = true) (hi : (P.info? ty).map (·.size) = some cs.size) : (loadVar ty ⟨g, 0, none⟩).run P w = .ok (.agg cs) w := by
  exact run_loadVar_row w g t ty cs (0, 0) d h hu hd hi
theorem results_cell1 {P : Program} {fn : Func} {p : Tmp} {ty : TypeId} (h : fn.results = #[.cell p ty]) (tmps : Array Value) (w : World) (g : Nat) (t : TypeId) (cs : Array Value) (d : TypeDesc) (hp : tmps.getD p undef = .pointer (some ⟨g, 0, none⟩)) (hb : Blk w g t cs)
    (hu : P.underlying ty = some d) (hd : (match d with | .struct _ | .array _ _ => true | _ => false) = true) (hi : (P.info? ty).map (·.size) = some cs.size) : (results fn tmps).run P w = .ok (.agg cs) w := by
  have hp' : tmps[p]?.getD undef = .pointer (some ⟨g, 0, none⟩) := by simpa using hp
  simp [results, h, hp', asAddr, loadVar_blk hb hu hd hi]
theorem results_cell2 {P : Program} {fn : Func} {p u : Tmp} {ty : TypeId} (h : fn.results = #[.cell p ty, .tmp u]) (tmps : Array Value) (w : World) (g : Nat) (t : TypeId) (cs : Array Value) (d : TypeDesc) (hp : tmps.getD p undef = .pointer (some ⟨g, 0, none⟩)) (hb : Blk w g t cs)
    (hu : P.underlying ty = some d) (hd : (match d with | .struct _ | .array _ _ => true | _ => false) = true) (hi : (P.info? ty).map (·.size) = some cs.size) : (results fn tmps).run P w = .ok (.tuple #[.agg cs, tmps.getD u undef]) w := by
  have hp' : tmps[p]?.getD undef = .pointer (some ⟨g, 0, none⟩) := by simpa using hp
  simp [results, h, hp', asAddr, loadVar_blk hb hu hd hi, Sem.run_bind, Result.andThen]
theorem results_cell3 {P : Program} {fn : Func} {p u v : Tmp} {ty : TypeId} (h : fn.results = #[.cell p ty, .tmp u, .tmp v]) (tmps : Array Value) (w : World) (g : Nat) (t : TypeId) (cs : Array Value) (d : TypeDesc) (hp : tmps.getD p undef = .pointer (some ⟨g, 0, none⟩)) (hb : Blk w g t cs)
    (hu : P.underlying ty = some d) (hd : (match d with | .struct _ | .array _ _ => true | _ => false) = true) (hi : (P.info? ty).map (·.size) = some cs.size) : (results fn tmps).run P w = .ok (.tuple #[.agg cs, tmps.getD u undef, tmps.getD v undef]) w := by
  have hp' : tmps[p]?.getD undef = .pointer (some ⟨g, 0, none⟩) := by simpa using hp
  simp [results, h, hp', asAddr, loadVar_blk hb hu hd hi, Sem.run_bind, Result.andThen]
/-- What scrolling up hands on. -/
def upL (top bot : Nat) (n : Int) (L : List Ln) : List Ln := if 0 < top then [] else rollGone top bot n L
section
variable {w0 w : World} {os : List Ob} {k p cols : Nat} {L : List Ln}
set_option maxHeartbeats 4000000 in
theorem Up_no {top bot n : Int} (q : Pen) (hT : Tabs w0) (hS : Objs w0 w os) (hk : os[k]? = some (.grid p 37 cols L)) (hc : 0 < cols) (hL : 0 < L.length) (hno : ¬ (regB L.length top bot = true ∧ 0 ≤ n ∧ q.ok = true)) (hn : n ≤ 9223372036854775807) :
    Calls Tryd.prog 12 #[.pointer (some ⟨p, 0, none⟩), .agg #[.int .i64 top, .int .i64 bot], .int .i64 n, .agg (pv q)] w fun e w' => e = .returned (.tuple #[.slice none 0 0, .int .i64 2]) ∧ Objs w0 w' os := by
  have S := Lib.hid hS
  have HT := Lib.hid hT
  have HK := Lib.hid hk
  clear hS hT hk
  cases hreg : regB L.length top bot with
  | false =>
    have HREG := Lib.hid hreg
    clear hreg hno
    go_enter Tryd.func12, Tryd.ntmps12
    go_upto_region 1 with (fail)
    refine at_objsC S.out.alloc2 (fun W hW => ?_)
    obtain ⟨hx5, hf5, hz5⟩ := (hW.box (k := 1) rfl).facts
    have SW := Lib.hid hW
    clear hW S
    go_wp2_with fail
    refine (rgcheck_any SW.out (k := k + 2) HK.out hL HREG.out).mono ?_
    simp only [errB, if_true, Bool.false_eq_true, if_false]
    rintro e w1 ⟨rfl, hS⟩
    have S1 := Lib.hid hS
    clear hS SW hx5 hf5 hz5
    go_wp2_with fail
    go_ret2
    exact ⟨rfl, S1.out.tail.tail⟩
  | true =>
    have HREG := Lib.hid hreg
    have HG := Lib.hid (show 0 ≤ top ∧ top ≤ bot ∧ bot < L.length from (of_decide_eq_true hreg).2)
    by_cases h0 : n < 0
    · have d0 : decide (n < 0) = true := decide_eq_true h0
      clear hreg hno
      go_enter Tryd.func12, Tryd.ntmps12
      go_upto_region 1 with (fail)
      refine at_objsC S.out.alloc2 (fun W hW => ?_)
      obtain ⟨hx5, hf5, hz5⟩ := (hW.box (k := 1) rfl).facts
      have SW := Lib.hid hW
      clear hW S
      go_wp2_with fail
      refine (rgcheck_any SW.out (k := k + 2) HK.out hL HREG.out).mono ?_
      simp only [errB, if_true, Bool.false_eq_true, if_false]
      rintro e w1 ⟨rfl, hS⟩
      have S1 := Lib.hid hS
      clear hS SW hx5 hf5 hz5
      go_wp2_with fail
      go_ret2
      exact ⟨rfl, S1.out.tail.tail⟩
    have d0 : decide (n < 0) = false := decide_eq_false h0
    have HQ := Lib.hid (show q.ok = false by cases h3 : q.ok with | false => rfl | true => exact absurd ⟨hreg, by omega, h3⟩ hno)
    clear hreg hno
    go_enter Tryd.func12, Tryd.ntmps12
    go_upto_region 1 with (fail)
    refine at_objsC S.out.alloc2 (fun W hW => ?_)
    obtain ⟨hx5, hf5, hz5⟩ := (hW.box (k := 1) rfl).facts
    have SW := Lib.hid hW
    clear hW S
    go_wp2_with fail
    refine (rgcheck_any SW.out (k := k + 2) HK.out hL HREG.out).mono ?_
    simp only [errB, if_true, Bool.false_eq_true, if_false]
    rintro e w1 ⟨rfl, hS⟩
    have S1 := Lib.hid hS
    clear hS SW hx5 hf5 hz5
    obtain ⟨hx5, hf5, hz5⟩ := (S1.out.box (k := 1) rfl).facts
    have hp7 := (S1.out.box (k := 0) rfl).penAt
    have hz7 := (S1.out.box (k := 0) rfl).lt
    go_wp2_with fail
    refine (Roll_pen q HT.out S1.out (k := k + 2) HK.out hc HG.out HQ.out).mono ?_
    rintro e w2 ⟨rfl, hS⟩
    have S2 := Lib.hid hS
    clear hS S1 hx5 hf5 hz5 hp7 hz7
    go_wp2_with fail
    go_ret2
    exact ⟨rfl, S2.out.tail.tail⟩
set_option maxHeartbeats 4000000 in
theorem Down_no {top bot n : Int} (q : Pen) (hT : Tabs w0) (hS : Objs w0 w os) (hk : os[k]? = some (.grid p 37 cols L)) (hc : 0 < cols) (hL : 0 < L.length) (hno : ¬ (regB L.length top bot = true ∧ 0 ≤ n ∧ q.ok = true)) (hn : n ≤ 9223372036854775807) :
    Calls Tryd.prog 15 #[.pointer (some ⟨p, 0, none⟩), .agg #[.int .i64 top, .int .i64 bot], .int .i64 n, .agg (pv q)] w fun e w' => e = .returned (.int .i64 2) ∧ Objs w0 w' os := by
  have S := Lib.hid hS
  have HT := Lib.hid hT
  have HK := Lib.hid hk
  clear hS hT hk
  cases hreg : regB L.length top bot with
  | false =>
    have HREG := Lib.hid hreg
    clear hreg hno
    go_enter Tryd.func15, Tryd.ntmps15
    go_upto_region 1 with (fail)
    refine at_objsC S.out.alloc2 (fun W hW => ?_)
    obtain ⟨hx5, hf5, hz5⟩ := (hW.box (k := 1) rfl).facts
    have SW := Lib.hid hW
    clear hW S
    go_wp2_with fail
    refine (rgcheck_any SW.out (k := k + 2) HK.out hL HREG.out).mono ?_
    simp only [errB, if_true, Bool.false_eq_true, if_false]
    rintro e w1 ⟨rfl, hS⟩
    have S1 := Lib.hid hS
    clear hS SW hx5 hf5 hz5
    go_wp2_with fail
    go_ret
    exact ⟨rfl, S1.out.tail.tail⟩
  | true =>
    have HREG := Lib.hid hreg
    have HG := Lib.hid (show 0 ≤ top ∧ top ≤ bot ∧ bot < L.length from (of_decide_eq_true hreg).2)
    by_cases h0 : n < 0
    · have d0 : decide (n < 0) = true := decide_eq_true h0
      clear hreg hno
      go_enter Tryd.func15, Tryd.ntmps15
      go_upto_region 1 with (fail)
      refine at_objsC S.out.alloc2 (fun W hW => ?_)
      obtain ⟨hx5, hf5, hz5⟩ := (hW.box (k := 1) rfl).facts
      have SW := Lib.hid hW
      clear hW S
      go_wp2_with fail
      refine (rgcheck_any SW.out (k := k + 2) HK.out hL HREG.out).mono ?_
      simp only [errB, if_true, Bool.false_eq_true, if_false]
      rintro e w1 ⟨rfl, hS⟩
      have S1 := Lib.hid hS
      clear hS SW hx5 hf5 hz5
      go_wp2_with fail
      go_ret
      exact ⟨rfl, S1.out.tail.tail⟩
    have d0 : decide (n < 0) = false := decide_eq_false h0
    have HQ := Lib.hid (show q.ok = false by cases h3 : q.ok with | false => rfl | true => exact absurd ⟨hreg, by omega, h3⟩ hno)
    have HW := Lib.hid (show IntKind.i64.wrap (-n) = -n from IntWalk.i64_in _ (by omega))
    clear hreg hno
    go_enter Tryd.func15, Tryd.ntmps15
    go_upto_region 1 with (fail)
    refine at_objsC S.out.alloc2 (fun W hW => ?_)
    obtain ⟨hx5, hf5, hz5⟩ := (hW.box (k := 1) rfl).facts
    have SW := Lib.hid hW
    clear hW S
    go_wp2_with fail
    refine (rgcheck_any SW.out (k := k + 2) HK.out hL HREG.out).mono ?_
    simp only [errB, if_true, Bool.false_eq_true, if_false]
    rintro e w1 ⟨rfl, hS⟩
    have S1 := Lib.hid hS
    clear hS SW hx5 hf5 hz5
    obtain ⟨hx5, hf5, hz5⟩ := (S1.out.box (k := 1) rfl).facts
    have hp7 := (S1.out.box (k := 0) rfl).penAt
    have hz7 := (S1.out.box (k := 0) rfl).lt
    have hwn := HW.out
    go_wp2_with fail
    refine (Roll_pen q HT.out S1.out (k := k + 2) HK.out hc HG.out HQ.out).mono ?_
    rintro e w2 ⟨rfl, hS⟩
    have S2 := Lib.hid hS
    clear hS S1 hx5 hf5 hz5 hp7 hz7
    go_wp2_with fail
    go_ret
    exact ⟨rfl, S2.out.tail.tail⟩
set_option maxHeartbeats 4000000 in
theorem Up_yes {top bot : Nat} {n : Int} (q : Pen) (hT : Tabs w0) (hS : Objs w0 w os) (hk : os[k]? = some (.grid p 37 cols L)) (hc : 0 < cols) (hcm : cols ≤ 1000) (hLm : L.length ≤ 1000) (htb : top ≤ bot) (hbl : bot < L.length) (hq : q.ok = true) (hn : 0 ≤ n ∧ n ≤ 9223372036854775807) :
    Calls Tryd.prog 12 #[.pointer (some ⟨p, 0, none⟩), .agg #[.int .i64 top, .int .i64 bot], .int .i64 n, .agg (pv q)] w fun e w' => ∃ A m c, e = .returned (.tuple #[.slice A m c, .int .i64 0]) ∧ Objs w0 w' (.lines (.slice A m c) (upL top bot n L) :: os.set k (.grid p 37 cols (rollL top bot n q cols L))) := by
  have S := Lib.hid hS
  have HT := Lib.hid hT
  have HK := Lib.hid hk
  clear hS hT hk
  have hL : 0 < L.length := by omega
  have hLm5 : L.length ≤ 100000 := by omega
  have HREG := Lib.hid (show regB L.length top bot = true from decide_eq_true ⟨⟨by omega, by omega⟩, by omega, by omega, by omega⟩)
  have HQ := Lib.hid hq
  have d0 : decide (n < 0) = false := decide_eq_false (by omega)
  clear hq
  by_cases ht : 0 < top
  · have dt : decide ((0 : Int) < (top : Int)) = true := decide_eq_true (by omega)
    have HX := Lib.hid (show upL top bot n L = [] from if_pos ht)
    go_enter Tryd.func12, Tryd.ntmps12
    go_upto_region 1 with (fail)
    refine at_objsC S.out.alloc2 (fun W hW => ?_)
    obtain ⟨hx5, hf5, hz5⟩ := (hW.box (k := 1) rfl).facts
    have SW := Lib.hid hW
    clear hW S
    go_wp2_with fail
    refine (rgcheck_any SW.out (k := k + 2) HK.out hL HREG.out).mono ?_
    simp only [errB, if_true, Bool.false_eq_true, if_false]
    rintro e w1 ⟨rfl, hS⟩
    have S1 := Lib.hid hS
    clear hS SW hx5 hf5 hz5
    obtain ⟨hx5, hf5, hz5⟩ := (S1.out.box (k := 1) rfl).facts
    have hp7 := (S1.out.box (k := 0) rfl).penAt
    have hz7 := (S1.out.box (k := 0) rfl).lt
    go_wp2_with fail
    refine (RollG n q HT.out S1.out (k := k + 2) HK.out hc hcm hLm5 htb hbl HQ.out (by omega)).mono ?_
    rintro e w2 ⟨A, m, c, rfl, hS⟩
    have S2 := Lib.hid hS
    clear hS S1 hx5 hf5 hz5 hp7 hz7
    obtain ⟨hx5, hf5, hz5⟩ := (S2.out.box (k := 2) rfl).facts
    go_wp2_with fail
    go_ret2
    exact ⟨none, 0, 0, rfl, by rw [HX.out]; exact S2.out.tail.tail.tail.nilLines⟩
  · have dt : decide ((0 : Int) < (top : Int)) = false := decide_eq_false (by omega)
    have ht0 : top = 0 := by omega
    subst ht0
    have HX := Lib.hid (show upL 0 bot n L = rollGone 0 bot n L from if_neg ht)
    go_enter Tryd.func12, Tryd.ntmps12
    go_upto_region 1 with (fail)
    refine at_objsC S.out.alloc2 (fun W hW => ?_)
    obtain ⟨hx5, hf5, hz5⟩ := (hW.box (k := 1) rfl).facts
    have SW := Lib.hid hW
    clear hW S
    go_wp2_with fail
    refine (rgcheck_any SW.out (k := k + 2) HK.out hL HREG.out).mono ?_
    simp only [errB, if_true, Bool.false_eq_true, if_false]
    rintro e w1 ⟨rfl, hS⟩
    have S1 := Lib.hid hS
    clear hS SW hx5 hf5 hz5
    obtain ⟨hx5, hf5, hz5⟩ := (S1.out.box (k := 1) rfl).facts
    have hp7 := (S1.out.box (k := 0) rfl).penAt
    have hz7 := (S1.out.box (k := 0) rfl).lt
    go_wp2_with fail
    refine (RollG n q HT.out S1.out (k := k + 2) HK.out hc hcm hLm5 htb hbl HQ.out (by omega)).mono ?_
    rintro e w2 ⟨A, m, c, rfl, hS⟩
    have S2 := Lib.hid hS
    clear hS S1 hx5 hf5 hz5 hp7 hz7
    obtain ⟨hx5, hf5, hz5⟩ := (S2.out.box (k := 2) rfl).facts
    go_wp2_with fail
    go_ret2
    exact ⟨A, m, c, rfl, by rw [HX.out]; exact (S2.out.del 1).del 1⟩
set_option maxHeartbeats 4000000 in
theorem Down_yes {top bot : Nat} {n : Int} (q : Pen) (hT : Tabs w0) (hS : Objs w0 w os) (hk : os[k]? = some (.grid p 37 cols L)) (hc : 0 < cols) (hcm : cols ≤ 1000) (hLm : L.length ≤ 1000) (htb : top ≤ bot) (hbl : bot < L.length) (hq : q.ok = true) (hn : 0 ≤ n ∧ n ≤ 9223372036854775807) :
    Calls Tryd.prog 15 #[.pointer (some ⟨p, 0, none⟩), .agg #[.int .i64 top, .int .i64 bot], .int .i64 n, .agg (pv q)] w fun e w' => e = .returned (.int .i64 0) ∧ Objs w0 w' (os.set k (.grid p 37 cols (rollL top bot (-n) q cols L))) := by
  have S := Lib.hid hS
  have HT := Lib.hid hT
  have HK := Lib.hid hk
  clear hS hT hk
  have hL : 0 < L.length := by omega
  have hLm5 : L.length ≤ 100000 := by omega
  have HREG := Lib.hid (show regB L.length top bot = true from decide_eq_true ⟨⟨by omega, by omega⟩, by omega, by omega, by omega⟩)
  have HQ := Lib.hid hq
  have d0 : decide (n < 0) = false := decide_eq_false (by omega)
  clear hq
  have HW := Lib.hid (show IntKind.i64.wrap (-n) = -n from IntWalk.i64_in _ (by omega))
  go_enter Tryd.func15, Tryd.ntmps15
  go_upto_region 1 with (fail)
  refine at_objsC S.out.alloc2 (fun W hW => ?_)
  obtain ⟨hx5, hf5, hz5⟩ := (hW.box (k := 1) rfl).facts
  have SW := Lib.hid hW
  clear hW S
  go_wp2_with fail
  refine (rgcheck_any SW.out (k := k + 2) HK.out hL HREG.out).mono ?_
  simp only [errB, if_true, Bool.false_eq_true, if_false]
  rintro e w1 ⟨rfl, hS⟩
  have S1 := Lib.hid hS
  clear hS SW hx5 hf5 hz5
  obtain ⟨hx5, hf5, hz5⟩ := (S1.out.box (k := 1) rfl).facts
  have hp7 := (S1.out.box (k := 0) rfl).penAt
  have hz7 := (S1.out.box (k := 0) rfl).lt
  have hwn := HW.out
  go_wp2_with fail
  refine (RollG (-n) q HT.out S1.out (k := k + 2) HK.out hc hcm hLm5 htb hbl HQ.out (by clear hwn; omega)).mono ?_
  rintro e w2 ⟨A, m, c, rfl, hS⟩
  have S2 := Lib.hid hS
  clear hS S1 hx5 hf5 hz5 hp7 hz7
  go_wp2_with fail
  go_ret
  exact ⟨rfl, S2.out.tail.tail.tail⟩
set_option maxHeartbeats 4000000 in
theorem r19Up_any {top bot : Nat} {n : Int} (q : Pen) (hS : Objs w0 w os) (hk : os[k]? = some (.grid p 63 cols L)) (hcm : cols ≤ 1000) (hLm : L.length ≤ 1000) (hR : Rect cols L) (htb : top ≤ bot) (hbl : bot < L.length) (hn : 0 ≤ n ∧ n ≤ 9223372036854775807) :
    Calls Tryd.prog 61 #[.pointer (some ⟨p, 0, none⟩), .agg #[.int .i64 top, .int .i64 bot], .int .i64 n, .agg (pv q)] w fun e w' => ∃ A m c, e = .returned (.slice A m c) ∧ Objs w0 w' (.lines (.slice A m c) (upL top bot n L) :: os.set k (.grid p 63 cols (rollL top bot n q cols L))) := by
  have S := Lib.hid hS
  have HK := Lib.hid hk
  have HMILL := Lib.hid (show ∀ l ∈ L, l.1.length ≤ 1000000 from fun l hl => by have := hR l hl; omega)
  clear hS hk
  by_cases ht : 0 < top
  · have dt : decide ((0 : Int) < (top : Int)) = true := decide_eq_true (by omega)
    have HX := Lib.hid (show upL top bot n L = [] from if_pos ht)
    go_enter Tryd.func61, Tryd.ntmps61
    go_upto_region 1 with (fail)
    refine at_objsC S.out.alloc2 (fun W hW => ?_)
    obtain ⟨hx5, hf5, hz5⟩ := (hW.box (k := 1) rfl).facts
    have hp7 := (hW.box (k := 0) rfl).penAt
    have hz7 := (hW.box (k := 0) rfl).lt
    have SW := Lib.hid hW
    clear hW S
    go_wp2_with fail
    refine (r14RollG n q SW.out (k := k + 2) HK.out hcm hLm HMILL.out htb hbl (by omega)).mono ?_
    rintro e w2 ⟨A, m, c, rfl, hS⟩
    have S2 := Lib.hid hS
    clear hS SW hx5 hf5 hz5 hp7 hz7
    obtain ⟨hx5, hf5, hz5⟩ := (S2.out.box (k := 2) rfl).facts
    go_wp2_with fail
    go_ret
    exact ⟨none, 0, 0, rfl, by rw [HX.out]; exact S2.out.tail.tail.tail.nilLines⟩
  · have dt : decide ((0 : Int) < (top : Int)) = false := decide_eq_false (by omega)
    have ht0 : top = 0 := by omega
    subst ht0
    have HX := Lib.hid (show upL 0 bot n L = rollGone 0 bot n L from if_neg ht)
    go_enter Tryd.func61, Tryd.ntmps61
    go_upto_region 1 with (fail)
    refine at_objsC S.out.alloc2 (fun W hW => ?_)
    obtain ⟨hx5, hf5, hz5⟩ := (hW.box (k := 1) rfl).facts
    have hp7 := (hW.box (k := 0) rfl).penAt
    have hz7 := (hW.box (k := 0) rfl).lt
    have SW := Lib.hid hW
    clear hW S
    go_wp2_with fail
    refine (r14RollG n q SW.out (k := k + 2) HK.out hcm hLm HMILL.out htb hbl (by omega)).mono ?_
    rintro e w2 ⟨A, m, c, rfl, hS⟩
    have S2 := Lib.hid hS
    clear hS SW hx5 hf5 hz5 hp7 hz7
    obtain ⟨hx5, hf5, hz5⟩ := (S2.out.box (k := 2) rfl).facts
    go_wp2_with fail
    go_ret
    exact ⟨A, m, c, rfl, by rw [HX.out]; exact (S2.out.del 1).del 1⟩
end
end Go.Proofs.YtghahanpmcpacaaDoor
