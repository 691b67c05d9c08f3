/-
  Part 3 of the texts on which the proofs of this seat stand: each part says ahead of it what it shows.
-/
import Derived.Test.YtjligfbaljnhnaaDoorM2
import Derived.Lib.MinMax

/-
  Lines of blank cells; cells made blank.
-/
set_option linter.unusedSimpArgs false
set_option linter.unusedVariables false
namespace Go.Proofs.YtjligfbaljnhnaaDoor
open Go.RowKit

set_option maxRecDepth 100000 in
set_option maxHeartbeats 2000000 in
theorem r14Blanks_any (n : Nat) (hn : n ≤ 100000) (p : Pen) (w0 w : World) (os : List Ob) (hS : Objs w0 w os) :
    Calls Tryd.prog 58 #[.int .i64 n, .agg (pv p)] w fun e w' => ∃ v, e = .returned (.agg #[v, .bool false]) ∧ Objs w0 w' (.cells v (List.replicate n (blank p)) :: os) := by
  have S0 := Lib.hid hS
  clear hS
  go_enter Tryd.func58, Tryd.ntmps58
  go_wp2_with fail
  refine at_objsC S0.out.alloc3 (fun W S1 => ?_)
  generalize w.heap.size + 1 + 1 = b5 at S1 ⊢
  generalize w.heap.size + 1 = b4 at S1 ⊢
  generalize w.heap.size = b3 at S1 ⊢
  have S1 := Lib.hid S1
  go_loopw [6] (fun i wr => ∃ (k : Nat) (v : Value), k ≤ n ∧ i = .int .i64 k ∧ Objs w0 wr (.cells v (List.replicate k (blank p)) :: .box b5 71 #[v, .bool false] :: .box b4 71 #[.slice none 0 0, .bool false] :: .box b3 29 (pv p) :: os)) (fun i _ => n - (intOf i).toNat)
  case atStart => exact ⟨0, _, Nat.zero_le _, rfl, S1.out.nilCells⟩
  case round =>
    obtain ⟨k, v, hk, rfl, hS⟩ := hrel
    have S := Lib.hid hS
    clear hS
    by_cases hlt : k < n
    · go_upto_region 5 with (fail)
      refine wp_region_stage (w0 := w0) (os := os) (by kernel_rfl) (by kernel_rfl) (by kernel_rfl) [(0, 4, [4], fun vs => .cells (vs 4) [blank p]), (1, 5, [5], fun vs => .cells (vs 5) (List.replicate (k + 1) (blank p))), (2, 7, [5], fun vs => .box b5 71 #[vs 5, .bool false])] [[], [2], [4], [], [0], [0, 1], [], [2]] [.none, .cells v (List.replicate k (blank p)), .box b5 71 #[v, .bool false], .box b4 71 #[.slice none 0 0, .bool false], .box b3 29 (pv p)] (fun i u => match i with | 0 => u = (.pointer (some ⟨b5, 0, none⟩) : Value) | 1 => u = (v : Value) | 2 => u = (.agg (pv p) : Value) | 3 => u = (.agg (cv (blank p)) : Value) | 4 => ∃ g, u = .slice (some ⟨g, 0, none⟩) 1 1 | 5 => ∃ A c, u = .slice A (k + 1) c | 6 => u = (.pointer (some ⟨b5, 0, none⟩) : Value) | 7 => True | _ => True) (fun vs => [.cells (vs 4) [blank p], .cells (vs 5) (List.replicate (k + 1) (blank p)), .box b5 71 #[vs 5, .bool false], .box b4 71 #[.slice none 0 0, .bool false], .box b3 29 (pv p)]) (by kernel_rfl) (fun vs => by rfl) S.out.pad ?_ ?_
      · refine SSteps.cons (fun a w' vs σ hS hl hs hk => ?_) ?_
        · have e5 : a.tmps.getD 5 undef = (.pointer (some ⟨b5, 0, none⟩) : Value) := (sk_old hk 5 (by kernel_rfl)).trans rfl
          have f5 := gd e5
          exact ro_pure (v := .pointer (some ⟨b5, 0, none⟩)) (wanted_none rfl) (by simp [execOp, Act.eval, e5, f5, go_sem]) (sp_same (by kernel_rfl) hl hs hS (show (.pointer (some ⟨b5, 0, none⟩) : Value) = _ from rfl)) trivial
        refine SSteps.cons (fun a w' vs σ hS hl hs hk => ?_) ?_
        · have e12 : a.tmps.getD 12 undef = (.pointer (some ⟨b5, 0, none⟩) : Value) := (sk_val hk 0 (by kernel_rfl) rfl rfl).trans ((hk.1 0 (by kernel_rfl)).1)
          have f12 := gd e12
          have hx := (hS.box (sg (hs 2 (by decide)))).cell
          exact ro_pure (v := v) (wanted_none rfl) (by simp [execOp, Act.eval, e12, f12, go_sem, hx]) (sp_same (by kernel_rfl) hl hs hS (show (v : Value) = _ from rfl)) trivial
        refine SSteps.cons (fun a w' vs σ hS hl hs hk => ?_) ?_
        · have e3 : a.tmps.getD 3 undef = (.pointer (some ⟨b3, 0, none⟩) : Value) := (sk_old hk 3 (by kernel_rfl)).trans rfl
          have f3 := gd e3
          have hx := (hS.box (sg (hs 4 (by decide)))).penAt
          exact ro_pure (v := .agg (pv p)) (wanted_none rfl) (by simp [execOp, Act.eval, e3, f3, go_sem, hx]) (sp_same (by kernel_rfl) hl hs hS (show (.agg (pv p) : Value) = _ from rfl)) trivial
        refine SSteps.cons (fun a w' vs σ hS hl hs hk => ?_) ?_
        · have e14 : a.tmps.getD 14 undef = (.agg (pv p) : Value) := (sk_val hk 2 (by kernel_rfl) rfl rfl).trans ((hk.1 2 (by kernel_rfl)).1)
          have f14 := gd e14
          exact ro_call (f := 29) (wanted_none rfl) rfl (by simp only [List.map_toArray, List.map_cons, List.map_nil, Act.eval, e14] <;> rfl) (fun _ _ => by kernel_rfl) ((r14Blank_any _ w').mono fun e w2 ⟨h1, h2⟩ => ⟨_, h1, sp_same (by kernel_rfl) hl hs (hS.bel h2) rfl, trivial⟩)
        refine SSteps.cons (fun a w' vs σ hS hl hs hk => ?_) ?_
        · have e15 : a.tmps.getD 15 undef = (.agg (cv (blank p)) : Value) := (sk_val hk 3 (by kernel_rfl) rfl rfl).trans ((hk.1 3 (by kernel_rfl)).1)
          have f15 := gd e15
          exact rs_run (wanted_none rfl) (exec_bsl rfl (by simp [Act.eval, e15, f15]) (run_bs1 (blank p) w')) (sp_set 0 (.cells (.slice (some ⟨w'.heap.size, 0, none⟩) 1 1) [blank p]) (by kernel_rfl) (by simp) (by decide) hl hs (by rfl) ((hS.newCells (belA _ _) (by simpa [fv, flat] using OwnC.one w' (blank p) (Nat.le_refl _))).place (sg (hs 0 (by decide)))) ⟨_, rfl⟩)
        refine SSteps.cons (fun a w' vs σ hS hl hs hk => ?_) ?_
        · have e13 : a.tmps.getD 13 undef = (v : Value) := (sk_val hk 1 (by kernel_rfl) rfl rfl).trans ((hk.1 1 (by kernel_rfl)).1)
          have f13 := gd e13
          have e16 : a.tmps.getD 16 undef = vs 4 := sk_val hk 4 (by kernel_rfl) rfl rfl
          have p16 : (fun u : Value => ∃ g, u = .slice (some ⟨g, 0, none⟩) 1 1) (vs 4) := (hk.1 4 (by kernel_rfl)).1
          have f16 := gd e16
          have h1 : σ[1]? = some (.cells v (List.replicate k (blank p))) := hs 1 (by decide)
          have h0 : σ[0]? = some (.cells (vs 4) [blank p]) := hs 0 (by decide)
          obtain ⟨A2, c2, q1, q2⟩ := hS.cellsRd (sg h0)
          obtain ⟨v2, w2, hr, hS2, A3, c3, hv3⟩ := run_appO hS (sg h1) q2 (by simp; omega) 52
          have hrep : (List.replicate k (blank p)) ++ [blank p] = (List.replicate (k + 1) (blank p)) := (List.replicate_succ' ..).symm
          rw [hrep] at hS2
          exact rs_run (wanted_none rfl) (exec_app rfl (by simp [Act.eval, e13, f13]) (by simp only [Act.eval]; exact (e16.trans q1)) hr) (sp_set 1 (.cells v2 (List.replicate (k + 1) (blank p))) (by kernel_rfl) (by simp) (by decide) hl hs (by rfl) hS2 ⟨A3, c3, by rw [hv3]; simp⟩)
        refine SSteps.cons (fun a w' vs σ hS hl hs hk => ?_) ?_
        · have e5 : a.tmps.getD 5 undef = (.pointer (some ⟨b5, 0, none⟩) : Value) := (sk_old hk 5 (by kernel_rfl)).trans rfl
          have f5 := gd e5
          exact ro_pure (v := .pointer (some ⟨b5, 0, none⟩)) (wanted_none rfl) (by simp [execOp, Act.eval, e5, f5, go_sem]) (sp_same (by kernel_rfl) hl hs hS (show (.pointer (some ⟨b5, 0, none⟩) : Value) = _ from rfl)) trivial
        refine SSteps.cons (fun a w' vs σ hS hl hs hk => ?_) ?_
        · have e18 : a.tmps.getD 18 undef = (.pointer (some ⟨b5, 0, none⟩) : Value) := (sk_val hk 6 (by kernel_rfl) rfl rfl).trans ((hk.1 6 (by kernel_rfl)).1)
          have f18 := gd e18
          have e17 : a.tmps.getD 17 undef = vs 5 := sk_val hk 5 (by kernel_rfl) rfl rfl
          have p17 : (fun u : Value => ∃ A c, u = .slice A (k + 1) c) (vs 5) := (hk.1 5 (by kernel_rfl)).1
          have f17 := gd e17
          have h2 : σ[2]? = some (.box b5 71 #[v, .bool false]) := hs 2 (by decide)
          obtain ⟨hx, hf, hz⟩ := (hS.box (sg h2)).facts
          obtain ⟨A3, c3, q3⟩ := p17
          exact rstep_store (w2 := w'.setCell ⟨b5, 0, none⟩ (.slice A3 (k + 1) c3)) (wanted_none rfl) rfl (by simp [execOp, Act.eval, e18, f18, e17, f17, q3, hx, hf, hz, go_sem]) (sp_set 2 (.box b5 71 #[vs 5, .bool false]) (by kernel_rfl) (by simp) (by decide) hl hs (by rfl) (by rw [q3]; exact hS.setBox 2 (sg h2)) trivial) trivial
        exact SSteps.nil
      · intro vs w' hS hv
        have q0 := (show vs 0 = (.pointer (some ⟨b5, 0, none⟩) : Value) from hv 0 (by decide))
        have q1 := (show vs 1 = (v : Value) from hv 1 (by decide))
        have q2 := (show vs 2 = (.agg (pv p) : Value) from hv 2 (by decide))
        have q3 := (show vs 3 = (.agg (cv (blank p)) : Value) from hv 3 (by decide))
        have q6 := (show vs 6 = (.pointer (some ⟨b5, 0, none⟩) : Value) from hv 6 (by decide))
        have q5 := hv 5 (by decide)
        obtain ⟨A5, c5, q5⟩ := (show ∃ A c, vs 5 = .slice A (k + 1) c from q5)
        rw [q5] at hS
        have S2 := Lib.hid hS
        simp only [putL, Act.put, Nat.zero_add, Nat.reduceAdd, List.setIfInBounds_toArray, List.set_cons_succ, List.set_cons_zero, q0, q1, q2, q3, q6]
        clear hS hv q0 q1 q2 q3 q6
        go_wp2_with fail
        go_roundw
        case rel => exact ⟨k + 1, .slice A5 (k + 1) c5, by omega, by go_num, S2.out.tail⟩
        case measure => simp [intOf]; omega
    · obtain rfl : k = n := by omega
      obtain ⟨hx5, hf5, hz5⟩ := (S.out.box (k := 1) rfl).facts
      obtain ⟨hx4, hf4, hz4⟩ := (S.out.box (k := 2) rfl).facts
      obtain ⟨A, c, hv, -⟩ := S.out.cellsRd (k := 0) rfl
      rw [List.length_replicate] at hv
      subst hv
      go_wp2_with fail
      have S2 := S.out.setLine 2 (.slice A k c) false rfl
      refine bodyPost_ret (results_c1 Tryd.results58 _ _ b4 _ _ rfl (S2.box (k := 2) rfl) Tryd.underlying71 rfl line_size) rfl ?_
      exact ⟨_, rfl, S2.drop2.drop2.drop2⟩

/-- Cells from a on made blank. -/
def wipeC (a m : Nat) (p : Pen) (cs : List Cell) : List Cell := cs.take a ++ List.replicate m (blank p) ++ cs.drop (a + m)
theorem wipeC_length {a m : Nat} {p : Pen} {cs : List Cell} (h : a + m ≤ cs.length) : (wipeC a m p cs).length = cs.length := by simp [wipeC]; omega
theorem wipeC_zero (a : Nat) (p : Pen) (cs : List Cell) : wipeC a 0 p cs = cs := by simp [wipeC]
theorem wipeC_succ {a k : Nat} {p : Pen} {cs : List Cell} (h : a + k < cs.length) : (wipeC a k p cs).set (a + k) (blank p) = wipeC a (k + 1) p cs := by
  unfold wipeC
  rw [List.set_append_right _ _ (by simp; omega)]
  rw [show a + k - (cs.take a ++ List.replicate k (blank p)).length = 0 by simp; omega]
  rw [show cs.drop (a + k) = cs[a + k] :: cs.drop (a + k + 1) from List.drop_eq_getElem_cons h]
  rw [List.set_cons_zero, List.replicate_succ']
  simp [Nat.add_assoc]
set_option maxRecDepth 100000 in
set_option maxHeartbeats 2000000 in
theorem wipe_front (g n cap a m c : Nat) (cs : List Cell) (p : Pen) (w0 w : World) (os : List Ob) (hS : Objs w0 w (.cells (.slice (some ⟨g, 0, none⟩) n cap) cs :: os)) (ham : a + m ≤ cs.length) (hmc : m ≤ c) (hlen : cs.length ≤ 1000000) :
    Calls Tryd.prog 84 #[.slice (some ⟨g, a * 16, none⟩) m c, .agg (pv p)] w fun e w' => e = .returned (.tuple #[]) ∧ Objs w0 w' (.cells (.slice (some ⟨g, 0, none⟩) n cap) (wipeC a m p cs) :: os) := by
  have S0 := Lib.hid hS
  have HAM := Lib.hid ham
  have HLEN := Lib.hid hlen
  have hm6 : m ≤ 1000000 := by omega
  clear hS ham hlen
  go_enter Tryd.func84, Tryd.ntmps84
  go_wp2_with fail
  go_loopw [4, 7] (fun _ i wr => ∃ k : Nat, k ≤ m ∧ i = .int .i64 k ∧ Objs w0 wr (.box w.heap.size 29 (pv p) :: .cells (.slice (some ⟨g, 0, none⟩) n cap) (wipeC a k p cs) :: os)) (fun _ i _ => m - (intOf i).toNat)
  case atStart => exact ⟨0, Nat.zero_le _, rfl, by rw [wipeC_zero]; exact S0.out.alloc1⟩
  case round =>
    obtain ⟨k, hk, rfl, hS⟩ := hrel
    have S := Lib.hid hS
    clear hS
    by_cases hlt : k < m
    · obtain ⟨hx3, hf3, hz3, hp3⟩ := (S.out.box (k := 0) rfl).pbox
      go_wp2_with fail
      refine (pure_call (cellBlank_any _ _) S.out).mono ?_
      rintro e w2 ⟨rfl, hS2⟩
      obtain ⟨W, hst, ho, hg⟩ := (hS2.own (k := 1) rfl).putAt (k := a + k) (by rw [wipeC_length (by have := HAM.out; omega)]; have := HAM.out; omega) (blank p)
      rw [wipeC_succ (by have := HAM.out; omega)] at ho
      have S3 := Lib.hid (hS2.cellsUpd (k := 1) rfl ho hg)
      rw [Nat.add_mul] at hst
      clear hS2 ho hg hx3 hf3 hz3 hp3
      go_wp2_with fail
      go_roundw
      case rel => exact ⟨k + 1, by omega, by go_num, S3.out⟩
      case measure => simp [intOf]; omega
    · obtain rfl : k = m := by omega
      go_wp2_with fail
      go_end0
      exact ⟨rfl, S.out.tail⟩

set_option maxRecDepth 100000 in
set_option maxHeartbeats 2000000 in
theorem gridblanks_any (n : Nat) (hn : n ≤ 1000) (p : Pen) (w0 w : World) (os : List Ob) (hS : Objs w0 w os) :
    Calls Tryd.prog 53 #[.int .i64 n, .agg (pv p)] w fun e w' => ∃ v, e = .returned (.agg #[v, .bool false]) ∧ Objs w0 w' (.cells v (List.replicate n (blank p)) :: os) := by
  have S0 := Lib.hid hS
  clear hS
  go_enter Tryd.func53, Tryd.ntmps53
  go_wp2_with fail
  refine (pure_call (cellBlank_any _ _) S0.out.alloc2).mono ?_
  rintro e w1 ⟨rfl, hS⟩
  have S1 := Lib.hid hS
  clear hS
  go_wp2_with (refine wpList_bs1 rfl _ rfl (blank p) rfl ?_)
  refine (repeat_any (blank p) n hn _ _ _ (RdC.lit _ _)).mono ?_
  rintro e w2 ⟨v, rfl, ho, hb⟩
  have S2 := Lib.hid (S1.out.newCells (bel1 hb) (own_low ho (by simp)))
  clear ho hb
  obtain ⟨hx, hf, hz⟩ := (S2.out.box (k := 1) rfl).facts
  obtain ⟨A, c, hv, -⟩ := S2.out.cellsRd (k := 0) rfl
  rw [List.length_replicate] at hv
  subst hv
  go_wp2_with fail
  have S3 := S2.out.setLine 1 (.slice A n c) false rfl
  refine bodyPost_ret (results_c1 Tryd.results53 _ _ (w.heap.size + 1) _ _ rfl (S3.box (k := 1) rfl) Tryd.underlying71 rfl line_size) rfl ?_
  exact ⟨_, rfl, S3.drop2.drop2⟩
end Go.Proofs.YtjligfbaljnhnaaDoor

/-
  Grids: what is asked of one.
-/
set_option linter.unusedSimpArgs false
set_option linter.unusedVariables false
namespace Go.Proofs.YtjligfbaljnhnaaDoor
open Go.RowKit

def Rect (n : Nat) (L : List Ln) : Prop := ∀ l ∈ L, l.1.length = n
theorem Rect.at_ {n : Nat} {L : List Ln} (h : Rect n L) {i : Nat} {l : Ln} (hl : L[i]? = some l) : l.1.length = n := h l (List.mem_of_getElem? hl)
def thereE (row : Int) (L : List Ln) : Int := if 0 ≤ row ∧ row < L.length then 0 else 3
def atE (row col : Int) (cols : Nat) (L : List Ln) : Int := if (0 ≤ row ∧ row < L.length) ∧ (0 ≤ col ∧ col < cols) then 0 else 3
theorem there_cases (row : Int) (L : List Ln) : (row < 0 ∧ Hid (thereE row L = 3)) ∨ ((0 ≤ row ∧ row < L.length) ∧ Hid (thereE row L = 0)) ∨ ((0 ≤ row ∧ (L.length : Int) ≤ row) ∧ Hid (thereE row L = 3)) := by
  by_cases h : row < 0
  · exact .inl ⟨h, Lib.hid (if_neg (by omega))⟩
  · by_cases h2 : row < L.length
    · exact .inr (.inl ⟨⟨by omega, h2⟩, Lib.hid (if_pos ⟨by omega, h2⟩)⟩)
    · exact .inr (.inr ⟨⟨by omega, by omega⟩, Lib.hid (if_neg (by omega))⟩)
theorem at_cases {row : Int} {L : List Ln} (hr : 0 ≤ row ∧ row < L.length) (col : Int) (cols : Nat) : (col < 0 ∧ Hid (atE row col cols L = 3)) ∨ ((0 ≤ col ∧ col < cols) ∧ Hid (atE row col cols L = 0)) ∨ ((0 ≤ col ∧ (cols : Int) ≤ col) ∧ Hid (atE row col cols L = 3)) := by
  by_cases h : col < 0
  · exact .inl ⟨h, Lib.hid (if_neg (by omega))⟩
  · by_cases h2 : col < cols
    · exact .inr (.inl ⟨⟨by omega, h2⟩, Lib.hid (if_pos ⟨hr, by omega, h2⟩)⟩)
    · exact .inr (.inr ⟨⟨by omega, by omega⟩, Lib.hid (if_neg (by omega))⟩)
section
variable {w0 w : World} {os : List Ob} {k p : Nat} {cols : Nat} {L : List Ln}
theorem none_nil (w : World) : Calls Tryd.prog 56 #[.pointer none] w fun e w' => e = .returned (.bool true) ∧ w = w' := by
  go_enter Tryd.func56, Tryd.ntmps56
  go_wp2_with fail
  go_ret
  exact ⟨rfl, rfl⟩
theorem none_zero {t : TypeId} (hS : Objs w0 w os) (hk : os[k]? = some (.box p t #[.int .i64 0, .slice none 0 0])) : Calls Tryd.prog 56 #[.pointer (some ⟨p, 0, none⟩)] w fun e w' => e = .returned (.bool true) ∧ Objs w0 w' os := by
  obtain ⟨hx, hf, hz⟩ := (hS.box hk).facts
  have S := Lib.hid hS
  clear hS
  go_enter Tryd.func56, Tryd.ntmps56
  go_wp2_with fail
  go_ret
  exact ⟨rfl, S.out⟩
theorem none_no (hS : Objs w0 w os) (hk : os[k]? = some (.grid p 35 cols L)) (hc : 0 < cols) : Calls Tryd.prog 56 #[.pointer (some ⟨p, 0, none⟩)] w fun e w' => e = .returned (.bool false) ∧ Objs w0 w' os := by
  obtain ⟨A, c, hB, -, -⟩ := hS.gridRd hk
  obtain ⟨hx, hf, hz⟩ := hB.facts
  have h0 : ((cols : Int) == 0) = false := by simp; omega
  have S := Lib.hid hS
  clear hS
  go_enter Tryd.func56, Tryd.ntmps56
  go_wp2_with fail
  go_ret
  exact ⟨rfl, S.out⟩
theorem Rows_any {cols : Int} {t : TypeId} (hS : Objs w0 w os) (hk : os[k]? = some (.grid p t cols L)) : Calls Tryd.prog 19 #[.pointer (some ⟨p, 0, none⟩)] w fun e w' => e = .returned (.int .i64 L.length) ∧ Objs w0 w' os := by
  obtain ⟨A, c, hB, hm, hr⟩ := hS.gridRd hk
  have hlen : L.length ≤ 9223372036854775807 := by have := hr.1; unfold maxLen at hm; omega
  obtain ⟨hx, hf, hz⟩ := hB.facts
  have S := Lib.hid hS
  clear hS hr hm
  go_enter Tryd.func19, Tryd.ntmps19
  go_wp2_with fail
  go_ret
  exact ⟨rfl, S.out⟩
theorem Rows_nil (w : World) : Calls Tryd.prog 19 #[.pointer none] w fun e w' => e = .returned (.int .i64 0) ∧ w = w' := by
  go_enter Tryd.func19, Tryd.ntmps19
  go_wp2_with fail
  go_ret
  exact ⟨rfl, rfl⟩
theorem Cols_nil (w : World) : Calls Tryd.prog 20 #[.pointer none] w fun e w' => e = .returned (.int .i64 0) ∧ w = w' := by
  go_enter Tryd.func20, Tryd.ntmps20
  go_wp2_with fail
  go_ret
  exact ⟨rfl, rfl⟩
theorem Cols_any {cols : Int} {t : TypeId} (hS : Objs w0 w os) (hk : os[k]? = some (.grid p t cols L)) : Calls Tryd.prog 20 #[.pointer (some ⟨p, 0, none⟩)] w fun e w' => e = .returned (.int .i64 cols) ∧ Objs w0 w' os := by
  obtain ⟨A, c, hB, hm, hr⟩ := hS.gridRd hk
  obtain ⟨hx, hf, hz⟩ := hB.facts
  have S := Lib.hid hS
  clear hS hr hm
  go_enter Tryd.func20, Tryd.ntmps20
  go_wp2_with fail
  go_ret
  exact ⟨rfl, S.out⟩
set_option maxHeartbeats 400000 in
theorem there_any (row : Int) (hS : Objs w0 w os) (hk : os[k]? = some (.grid p 35 cols L)) (hc : 0 < cols) : Calls Tryd.prog 70 #[.pointer (some ⟨p, 0, none⟩), .int .i64 row] w fun e w' => e = .returned (.int .i64 (thereE row L)) ∧ Objs w0 w' os := by
  have S := Lib.hid hS
  obtain ⟨A0, c0, hB0, hm, hr⟩ := hS.gridRd hk
  have hlen : L.length ≤ 9223372036854775807 := by have := hr.1; unfold maxLen at hm; omega
  clear hS hB0 hr hm
  have HK := Lib.hid hk
  clear hk
  rcases there_cases row L with ⟨h, HT⟩ | ⟨⟨h, h2⟩, HT⟩ | ⟨⟨h, h2⟩, HT⟩
  all_goals
    go_enter Tryd.func70, Tryd.ntmps70
    go_wp2_with fail
    refine (none_no S.out HK.out hc).mono ?_
    rintro e w1 ⟨rfl, hS⟩
    obtain ⟨A, c, hB, -, -⟩ := hS.gridRd HK.out
    obtain ⟨hx, hf, hz⟩ := hB.facts
    have S1 := Lib.hid hS
    clear hS hB
    go_wp2_with fail
    go_ret
    exact ⟨by rw [HT.out]; rfl, S1.out⟩
set_option maxHeartbeats 400000 in
theorem at_any (row col : Int) (hS : Objs w0 w os) (hk : os[k]? = some (.grid p 35 cols L)) (hc : 0 < cols) : Calls Tryd.prog 79 #[.pointer (some ⟨p, 0, none⟩), .int .i64 row, .int .i64 col] w fun e w' => e = .returned (.int .i64 (atE row col cols L)) ∧ Objs w0 w' os := by
  have S := Lib.hid hS
  have HK := Lib.hid hk
  clear hS hk
  by_cases hr : 0 ≤ row ∧ row < L.length
  case neg =>
    have HT := Lib.hid (show atE row col cols L = 3 by unfold atE; rw [if_neg (by omega)])
    have HE := Lib.hid (show thereE row L = 3 by unfold thereE; rw [if_neg hr])
    clear hr
    go_enter Tryd.func79, Tryd.ntmps79
    go_wp2_with fail
    refine (there_any row S.out HK.out hc).mono ?_
    rw [HE.out]
    rintro e w1 ⟨rfl, hS⟩
    have S1 := Lib.hid hS
    clear hS
    go_wp2_with fail
    go_ret
    exact ⟨by rw [HT.out]; rfl, S1.out⟩
  have HE := Lib.hid (show thereE row L = 0 by unfold thereE; rw [if_pos hr])
  rcases at_cases hr col cols with ⟨h, HT⟩ | ⟨⟨h, h2⟩, HT⟩ | ⟨⟨h, h2⟩, HT⟩
  all_goals
    clear hr
    go_enter Tryd.func79, Tryd.ntmps79
    go_wp2_with fail
    refine (there_any row S.out HK.out hc).mono ?_
    rw [HE.out]
    rintro e w1 ⟨rfl, hS⟩
    obtain ⟨A, c, hB, -, -⟩ := hS.gridRd HK.out
    obtain ⟨hx, hf, hz⟩ := hB.facts
    have S1 := Lib.hid hS
    clear hS hB
    go_wp2_with fail
    go_ret
    exact ⟨by rw [HT.out]; rfl, S1.out⟩
end
/-- Whether a pen is valid, as the program asks, and the law. -/
theorem inked_any (q : Pen) {w0 w : World} {os : List Ob} (hT : Tabs w0) (hS : Objs w0 w os) : Calls Tryd.prog 82 #[.agg (pv q)] w fun e w' => e = .returned (.bool q.ok) ∧ Objs w0 w' os := by
  have S := Lib.hid hS
  have HT := Lib.hid hT
  clear hS hT
  go_enter Tryd.func82, Tryd.ntmps82
  go_wp2_with fail
  refine (pure_call (cellBlank_any _ _) S.out.alloc1).mono ?_
  rintro e w1 ⟨rfl, hS⟩
  have S1 := Lib.hid hS
  clear hS
  go_wp2_with fail
  refine (pure_call (cellValid_any _ _ (S1.out.tabs HT.out)) S1.out).mono ?_
  rw [ok_blank]
  rintro e w2 ⟨rfl, hS⟩
  have S2 := Lib.hid hS
  clear hS
  go_wp2_with fail
  go_ret
  exact ⟨rfl, S2.out.tail⟩
theorem l14inked_any (q : Pen) {w0 w : World} {os : List Ob} (hT : Tabs w0) (hS : Objs w0 w os) : Calls Tryd.prog 75 #[.agg (pv q)] w fun e w' => e = .returned (.bool q.ok) ∧ Objs w0 w' os := by
  have S := Lib.hid hS
  have HT := Lib.hid hT
  clear hS hT
  go_enter Tryd.func75, Tryd.ntmps75
  go_wp2_with fail
  refine (pure_call (r14Blank_any _ _) S.out.alloc1).mono ?_
  rintro e w1 ⟨rfl, hS⟩
  have S1 := Lib.hid hS
  clear hS
  go_wp2_with fail
  refine (pure_call (cellValid_any _ _ (S1.out.tabs HT.out)) S1.out).mono ?_
  rw [ok_blank]
  rintro e w2 ⟨rfl, hS⟩
  have S2 := Lib.hid hS
  clear hS
  go_wp2_with fail
  go_ret
  exact ⟨rfl, S2.out.tail⟩
section
variable {w0 w : World} {os : List Ob} {k p : Nat} {cols : Nat} {L : List Ln}
set_option maxHeartbeats 400000 in
theorem Cell_yes {i j : Nat} {l : Ln} {x : Cell} (hS : Objs w0 w os) (hk : os[k]? = some (.grid p 35 cols L)) (hc : 0 < cols) (hj : j < cols) (hl : L[i]? = some l) (hx : l.1[j]? = some x) :
    Calls Tryd.prog 46 #[.pointer (some ⟨p, 0, none⟩), .int .i64 i, .int .i64 j] w fun e w' => e = .returned (.tuple #[.agg (cv x), .int .i64 0]) ∧ Objs w0 w' os := by
  have S := Lib.hid hS
  have HK := Lib.hid hk
  have HL := Lib.hid hl
  have HX := Lib.hid hx
  have hi : i < L.length := (List.getElem?_eq_some_iff.1 hl).1
  have hj2 : j < l.1.length := (List.getElem?_eq_some_iff.1 hx).1
  have HE := Lib.hid (show atE i j cols L = 0 by unfold atE; rw [if_pos ⟨⟨by omega, by omega⟩, by omega, by omega⟩])
  clear hS hk hl hx
  go_enter Tryd.func46, Tryd.ntmps46
  go_wp2_with fail
  refine (at_any i j S.out.alloc1 (k := k + 1) HK.out hc).mono ?_
  rw [HE.out]
  rintro e w1 ⟨rfl, hS⟩
  have S1 := Lib.hid hS
  obtain ⟨A, c, hB, hm, hr⟩ := hS.gridRd (k := k + 1) HK.out
  have hlen : L.length ≤ 9223372036854775807 := by have := hr.1; unfold maxLen at hm; omega
  obtain ⟨hx0, hf0, hz0⟩ := hB.facts
  obtain ⟨b, off, A', c', rfl, hz1, hc1, hc2, hrd⟩ := hr.at_ HL.out
  obtain ⟨b2, off2, rfl, hz2, hrg⟩ := hrd.at_ hj2
  have hce := elem_cell hrg hj2
  have hcx : l.1[j] = x := by have := HX.out; simpa [hj2] using this
  rw [hcx] at hce
  obtain ⟨hx6, hf6, hz6⟩ := (hS.box (k := 0) rfl).facts
  have hst := store_cv_row w1 w.heap.size (cv cell0) x (hS.box (k := 0) rfl) (cv_size _)
  clear hS hB hm hr hrd hrg hcx
  go_wp2_with fail
  have S2 := S1.out.rowBox 0 (ds := cv x) rfl
  refine bodyPost_ret (results_ct Tryd.results46 _ _ w.heap.size _ _ rfl (S2.box (k := 0) rfl) Tryd.underlying65 rfl cell_size) rfl ?_
  exact ⟨rfl, S2.tail⟩
set_option maxHeartbeats 400000 in
theorem Cell_no {row col : Int} (hS : Objs w0 w os) (hk : os[k]? = some (.grid p 35 cols L)) (hc : 0 < cols) (hno : ¬ ((0 ≤ row ∧ row < L.length) ∧ 0 ≤ col ∧ col < cols)) :
    Calls Tryd.prog 46 #[.pointer (some ⟨p, 0, none⟩), .int .i64 row, .int .i64 col] w fun e w' => e = .returned (.tuple #[.agg (cv cell0), .int .i64 3]) ∧ Objs w0 w' os := by
  have S := Lib.hid hS
  have HK := Lib.hid hk
  have HE := Lib.hid (show atE row col cols L = 3 by unfold atE; rw [if_neg hno])
  clear hS hk hno
  go_enter Tryd.func46, Tryd.ntmps46
  go_wp2_with fail
  refine (at_any row col S.out.alloc1 (k := k + 1) HK.out hc).mono ?_
  rw [HE.out]
  rintro e w1 ⟨rfl, hS⟩
  have S1 := Lib.hid hS
  obtain ⟨hx6, hf6, hz6⟩ := (hS.box (k := 0) rfl).facts
  have hst := store_cv_row w1 w.heap.size _ ⟨0, 0, 0, 0, 0, pen0⟩ (hS.box (k := 0) rfl) (cv_size _)
  clear hS
  go_wp2_with fail
  have S2 := S1.out.rowBox 0 (ds := cv cell0) rfl
  refine bodyPost_ret (results_ct Tryd.results46 _ _ w.heap.size _ _ rfl (S2.box (k := 0) rfl) Tryd.underlying65 rfl cell_size) rfl ?_
  exact ⟨rfl, S2.tail⟩
set_option maxHeartbeats 400000 in
theorem Line_yes {i : Nat} {l : Ln} (hS : Objs w0 w os) (hk : os[k]? = some (.grid p 35 cols L)) (hc : 0 < cols) (hl : L[i]? = some l) (hn : l.1.length ≤ 1000000) :
    Calls Tryd.prog 34 #[.pointer (some ⟨p, 0, none⟩), .int .i64 i] w fun e w' => ∃ v, e = .returned (.tuple #[.agg #[v, .bool l.2], .int .i64 0]) ∧ Objs w0 w' (.cells v l.1 :: os) := by
  have S := Lib.hid hS
  have HK := Lib.hid hk
  have HL := Lib.hid hl
  have hi : i < L.length := (List.getElem?_eq_some_iff.1 hl).1
  have HE := Lib.hid (show thereE i L = 0 by unfold thereE; rw [if_pos ⟨by omega, by omega⟩])
  clear hS hk hl
  go_enter Tryd.func34, Tryd.ntmps34
  go_wp2_with fail
  refine (there_any i S.out.alloc1 (k := k + 1) HK.out hc).mono ?_
  rw [HE.out]
  rintro e w1 ⟨rfl, hS⟩
  have S1 := Lib.hid hS
  obtain ⟨A, c, hB, hm, hr⟩ := hS.gridRd (k := k + 1) HK.out
  have hlen : L.length ≤ 9223372036854775807 := by have := hr.1; unfold maxLen at hm; omega
  obtain ⟨hx0, hf0, hz0⟩ := hB.facts
  obtain ⟨b, off, A', c', rfl, hz1, hc1, hc2, hrd⟩ := hr.at_ HL.out
  have HRD := Lib.hid hrd
  clear hS hB hm hr hrd
  go_wp2_with fail
  refine (lineCopy_any A' c' l.1 l.2 _ HRD.out hn).mono ?_
  rintro e w2 ⟨v, rfl, ho, hb⟩
  have S2 := Lib.hid (S1.out.newCells hb ho)
  obtain ⟨A2, c2, rfl, -⟩ := ho.form
  clear ho hb hx0 hf0 hz0 hz1 hc1 hc2
  obtain ⟨hx4, hf4, hz4⟩ := (S2.out.box (k := 1) rfl).facts
  go_wp2_with fail
  have S3 := S2.out.setLine 1 (.slice A2 l.1.length c2) l.2 rfl
  refine bodyPost_ret (results_ct Tryd.results34 _ _ w.heap.size _ _ rfl (S3.box (k := 1) rfl) Tryd.underlying71 rfl line_size) rfl ?_
  exact ⟨_, rfl, S3.drop2⟩
set_option maxHeartbeats 400000 in
theorem Line_no {row : Int} (hS : Objs w0 w os) (hk : os[k]? = some (.grid p 35 cols L)) (hc : 0 < cols) (hno : ¬ (0 ≤ row ∧ row < L.length)) :
    Calls Tryd.prog 34 #[.pointer (some ⟨p, 0, none⟩), .int .i64 row] w fun e w' => e = .returned (.tuple #[.agg #[.slice none 0 0, .bool false], .int .i64 3]) ∧ Objs w0 w' os := by
  have S := Lib.hid hS
  have HK := Lib.hid hk
  have HE := Lib.hid (show thereE row L = 3 by unfold thereE; rw [if_neg hno])
  clear hS hk hno
  go_enter Tryd.func34, Tryd.ntmps34
  go_wp2_with fail
  refine (there_any row S.out.alloc1 (k := k + 1) HK.out hc).mono ?_
  rw [HE.out]
  rintro e w1 ⟨rfl, hS⟩
  have S1 := Lib.hid hS
  obtain ⟨hx4, hf4, hz4⟩ := (hS.box (k := 0) rfl).facts
  clear hS
  go_wp2_with fail
  have S3 := S1.out.setLine 0 (.slice none 0 0) false rfl
  refine bodyPost_ret (results_ct Tryd.results34 _ _ w.heap.size _ _ rfl (S3.box (k := 0) rfl) Tryd.underlying71 rfl line_size) rfl ?_
  exact ⟨rfl, S3.tail⟩
end
end Go.Proofs.YtjligfbaljnhnaaDoor

/-
  Parts of slices of cells; copy within one.
-/
set_option linter.unusedSimpArgs false
set_option linter.unusedVariables false
namespace Go.Proofs.YtjligfbaljnhnaaDoor
open Go.RowKit

/-- Where a slice stands from element k on. -/
def tailA (A : Option Addr) (c k : Nat) : Option Addr := if c = k then A else A.map (·.add (k * 16))
theorem tailA_at {g c k : Nat} (h : k < c) : tailA (some ⟨g, 0, none⟩) c k = some ⟨g, k * 16, none⟩ := by unfold tailA; rw [if_neg (by omega)]; simp [add_at]
theorem run_from (w : World) (A : Option Addr) (n c k : Nat) (hk : k ≤ n) (hc : n ≤ c) (hA : A = none → c = 0) (h63 : n ≤ 9223372036854775807) : (Instr.slice 52 (.slice A n c) (some (.int .i64 k)) none none).run Tryd.prog w = .ok (.slice (tailA A c k) (n - k) (c - k)) w := by
  cases A with
  | none =>
    obtain rfl := hA rfl
    obtain rfl : n = 0 := by omega
    obtain rfl : k = 0 := by omega
    simp [go_sem, tailA]
  | some ad => simp [go_sem, hk, tailA]
theorem run_mid (w : World) (g n c lo hi : Nat) (h1 : lo ≤ hi) (h2 : hi ≤ n) (h3 : n ≤ c) (h4 : lo < c) (h63 : n ≤ 9223372036854775807) : (Instr.slice 52 (.slice (some ⟨g, 0, none⟩) n c) (some (.int .i64 lo)) (some (.int .i64 hi)) none).run Tryd.prog w = .ok (.slice (some ⟨g, lo * 16, none⟩) (hi - lo) (c - lo)) w := by
  have h5 : hi ≤ c := by omega
  have h6 : ¬ c = lo := by omega
  simp [go_sem, h1, h5, h6, add_at]
theorem RdC.from {w : World} {A : Option Addr} {c : Nat} {cs : List Cell} (h : RdC w A c cs) (k : Nat) (hk : k ≤ cs.length) : RdC w (tailA A c k) (c - k) (cs.drop k) := by
  refine ⟨by have := h.1; simp; omega, fun e => ?_, fun hn => ?_⟩
  · unfold tailA at e
    split at e
    · omega
    · have : A = none := by cases A with
        | none => rfl
        | some ad => cases e
      have := h.2.1 this
      omega
  · simp at hn
    obtain ⟨b, off, e, hlt, hr⟩ := h.2.2 (by omega)
    subst e
    unfold tailA
    rw [if_neg (by have := h.1; omega)]
    exact ⟨b, off + k * 16, by simp [add_at], hlt, RdC.drop hr k⟩
section
variable {w0 w : World} {os : List Ob}
/-- copy within one slice of cells: m cells from a on go to i. -/
theorem run_copyO {k g n cap : Nat} {cs : List Cell} (hS : Objs w0 w os) (hk : os[k]? = some (.cells (.slice (some ⟨g, 0, none⟩) n cap) cs)) (i a m : Nat) (dp sp : Option Addr) (dLen dCap sLen sCap : Nat) (hm : Nat.min sLen dLen = m) (hi : i + m ≤ cs.length) (ha : a + m ≤ cs.length)
    (hpos : 0 < m → dp = some ⟨g, i * 16, none⟩ ∧ sp = some ⟨g, a * 16, none⟩) (ty : TypeId) :
    ∃ W, (Builtin.copy_ #[52, 52] ty #[.slice dp dLen dCap, .slice sp sLen sCap]).run Tryd.prog w = .ok (goInt m) W ∧ Objs w0 W (os.set k (.cells (.slice (some ⟨g, 0, none⟩) n cap) (cs.take i ++ ((cs.drop a).take m ++ cs.drop (i + m))))) := by
  have ho := hS.own hk
  have hlen : ((cs.drop a).take m).length = m := by simp; omega
  obtain ⟨hn, -⟩ : n = cs.length ∧ True := by
    obtain ⟨A', c', e, -⟩ := ho.form
    simp only [Value.slice.injEq] at e
    exact ⟨e.2.1, trivial⟩
  subst hn
  obtain ⟨W, h1, h2, h3⟩ := own_copy (P := Tryd.prog) ho 52 52 ty Tryd.underlying52 cell_size dp sp dLen dCap sLen sCap (i * 16) (flat ((cs.drop a).take m)) (by rw [flat_length, hlen, hm]) (by rw [flat_length, flat_length, hlen, ← Nat.add_mul]; exact Nat.mul_le_mul_right 16 hi) (fun hp => by
    rw [hm] at hp
    obtain ⟨e1, e2⟩ := hpos hp
    refine ⟨e1, _, e2, fun j v hv => ?_⟩
    obtain ⟨g', e', -, -, hz, hr⟩ := ho.head (by omega)
    cases e'
    have hd := RdC.take (RdC.drop hr a) m
    rw [add_at]
    have := hd j v hv
    rwa [Nat.zero_add] at this) (flat_one _)
  rw [hm] at h1
  refine ⟨W, h1, hS.cellsUpd hk ?_ h3⟩
  have e : flat (cs.take i ++ ((cs.drop a).take m ++ cs.drop (i + m))) = over (flat cs) (i * 16) (flat ((cs.drop a).take m)) := by
    unfold over
    rw [flat_append, flat_append, ← flat_take, ← flat_drop cs (i + m), flat_length, hlen, Nat.add_mul]
  unfold OwnC
  rw [e]
  have hl2 : (cs.take i ++ ((cs.drop a).take m ++ cs.drop (i + m))).length = cs.length := by simp; omega
  rw [hl2]
  exact h2
end
theorem exec_copy {o : Oper} {a : Act} {w w' : World} {dT sT : TypeId} {d s : Operand} (ho : o.op = .call { callee := .builtin .copy, args := #[d, s], argTypes := #[dT, sT] }) {vd vs u : Value} (hd : a.eval d = vd) (hs : a.eval s = vs) (hr : (Builtin.copy_ #[dT, sT] o.type #[vd, vs]).run Tryd.prog w = .ok u w') : (execOp a.eval o).run Tryd.prog w = .ok (.value u) w' := by
  simp [execOp, ho, resolve, invoke, builtin, hd, hs, hr, Result.andThen]
theorem exec_slice {o : Oper} {a : Act} {w : World} {x : Operand} {lo hi : Option Operand} {vx u : Value} {vl vh : Option Value} (ho : o.op = .slice 52 x lo hi none) (hx : a.eval x = vx) (hl : lo.map a.eval = vl) (hh : hi.map a.eval = vh) (hr : (Instr.slice 52 vx vl vh none).run Tryd.prog w = .ok u w) : (execOp a.eval o).run Tryd.prog w = .ok (.value u) w := by
  subst hx hl hh
  unfold execOp
  have h : (Instr.sliceAt 52 (a.eval x) (lo.map a.eval) (hi.map a.eval) none).run Tryd.prog w = .ok u w := by
    unfold Instr.sliceAt
    simp only [Sem.run_bind, run_underlying Tryd.underlying52, Result.andThen_ok]
    exact hr
  simp only [ho, Option.map_none, Sem.run_bind, h, Result.andThen_ok, Sem.run_pure]
/-- A value of which all is known, in a region that draws. -/
theorem inked_is {q : Pen} {b : Bool} (h : q.ok = b) {w0 w : World} {os : List Ob} (hT : Tabs w0) (hS : Objs w0 w os) : Calls Tryd.prog 82 #[.agg (pv q)] w fun e w' => e = .returned (.bool b) ∧ Objs w0 w' os := h ▸ inked_any q hT hS
end Go.Proofs.YtjligfbaljnhnaaDoor

/-
  Put: a cell is put into a grid.
-/
set_option linter.unusedSimpArgs false
set_option linter.unusedVariables false
namespace Go.Proofs.YtjligfbaljnhnaaDoor
open Go.RowKit

/-- A cell put into a row. -/
def putC (j : Nat) (x : Cell) (cs : List Cell) : List Cell :=
  let l := (brk (j + x.width.toNat) (brk j cs)).set j x
  if x.width = 2 then l.set (j + 1) (spacer x.pen) else l
theorem putC_length (j : Nat) (x : Cell) (cs : List Cell) : (putC j x cs).length = cs.length := by
  unfold putC
  simp only
  split <;> simp [brk_length]
theorem ok_w12 {x : Cell} (h : x.ok = true) (h0 : ¬ x.width = 0) : x.width = 1 ∨ x.width = 2 := by
  rcases ok_width h with h1 | h1 | h1
  · exact absurd h1 h0
  · exact .inl h1
  · exact .inr h1
section
variable {w0 w : World} {os : List Ob} {p cols : Nat} {L : List Ln}
/-- A grid with one row out, and back. -/
theorem Objs.openAt {t : TypeId} {cols : Int} {i : Nat} {l : Ln} (h : Objs w0 w (.grid p t cols L :: os)) (hl : L[i]? = some l) : ∃ v b, Objs w0 w (.cells b l.1 :: .linesx v L i b :: .box p t #[.int .i64 cols, v] :: os) := by
  obtain ⟨v, h1⟩ := h.openGrid (k := 0) rfl
  obtain ⟨b, h2⟩ := h1.openRow (k := 0) rfl hl
  exact ⟨v, b, h2⟩
theorem Objs.closeAt {t : TypeId} {cols : Int} {v b : Value} {i : Nat} {l : Ln} {cs : List Cell} (h : Objs w0 w (.cells b cs :: .linesx v L i b :: .box p t #[.int .i64 cols, v] :: os)) (hl : L[i]? = some l) : Objs w0 w (.grid p t cols (L.set i (cs, l.2)) :: os) := by
  have h1 := h.closeRow (k := 0) (s := l.2) rfl (by rw [hl]; rfl)
  exact (h1 : Objs w0 w (.lines v _ :: .box p t _ :: os)).closeGrid (k := 0) rfl
/-- The two ahead change places. -/
theorem Objs.swap {a b : Ob} (h : Objs w0 w (a :: b :: os)) : Objs w0 w (b :: a :: os) := by
  have h1 := h.lift (k := 1) (o := b) rfl
  exact h1.del 2
set_option maxHeartbeats 400000 in
theorem Put_out (row col : Int) (x : Cell) (hS : Objs w0 w (.grid p 35 cols L :: os)) (hc : 0 < cols) (hno : ¬ ((0 ≤ row ∧ row < L.length) ∧ 0 ≤ col ∧ col < cols)) :
    Calls Tryd.prog 43 #[.pointer (some ⟨p, 0, none⟩), .int .i64 row, .int .i64 col, .agg (cv x)] w fun e w' => e = .returned (.int .i64 3) ∧ Objs w0 w' (.grid p 35 cols L :: os) := by
  have S := Lib.hid hS
  have HE := Lib.hid (show atE row col cols L = 3 by unfold atE; rw [if_neg hno])
  clear hS hno
  go_enter Tryd.func43, Tryd.ntmps43
  go_wp2_with fail
  refine (at_any _ _ S.out.alloc1 (k := 1) rfl hc).mono ?_
  rw [HE.out]
  rintro e w1 ⟨rfl, hS⟩
  have S1 := Lib.hid hS
  clear hS S
  go_wp2_with fail
  go_ret
  exact ⟨rfl, S1.out.tail⟩
set_option maxRecDepth 100000 in
set_option maxHeartbeats 2000000 in
theorem Put_bad1 {i j : Nat} (x : Cell) (hT : Tabs w0) (hS : Objs w0 w (.grid p 35 cols L :: os)) (hc : 0 < cols) (hcm : cols ≤ 1000) (hi : i < L.length) (hj : j < cols) (hv : x.ok = false) :
    Calls Tryd.prog 43 #[.pointer (some ⟨p, 0, none⟩), .int .i64 i, .int .i64 j, .agg (cv x)] w fun e w' => e = .returned (.int .i64 2) ∧ Objs w0 w' (.grid p 35 cols L :: os) := by
  have S := Lib.hid hS
  have HT := Lib.hid hT
  have HE := Lib.hid (show atE i j cols L = 0 by unfold atE; rw [if_pos ⟨⟨by omega, by omega⟩, by omega, by omega⟩])
  clear hS hT
  have HV := Lib.hid hv
  clear hv
  go_enter Tryd.func43, Tryd.ntmps43
  go_wp2_with fail
  refine (at_any _ _ S.out.alloc1 (k := 1) rfl hc).mono ?_
  rw [HE.out]
  rintro e w1 ⟨rfl, hS⟩
  have S1 := Lib.hid hS
  clear hS S
  generalize w.heap.size = b7 at S1 ⊢
  go_upto_region 4 with (fail)
  refine wp_region_stage (w0 := w0) (os := os) (by kernel_rfl) (by kernel_rfl) (by kernel_rfl) [] [[0], [], [], [], [], [], [], [], [], [], [], [], [], [], [], [], [], [], []] [.box b7 65 (cv x), .grid p 35 cols L] (fun i u => match i with | 0 => u = (.agg (cv x) : Value) | 1 => u = (.bool false : Value) | 2 => u = (.bool true : Value) | 3 => u = (.bool true : Value) | 4 => True | 5 => True | 6 => True | 7 => u = (.bool true : Value) | 8 => u = (.bool true : Value) | 9 => True | 10 => True | 11 => True | 12 => True | 13 => True | 14 => True | 15 => True | 16 => True | 17 => True | 18 => u = (.bool true : Value) | _ => True) (fun vs => [.box b7 65 (cv x), .grid p 35 cols L]) (by kernel_rfl) (fun vs => by rfl) S1.out ?_ ?_
  · refine SSteps.cons (fun a w' vs σ hS hl hs hk => ?_) ?_
    · have e7 : a.tmps.getD 7 undef = (.pointer (some ⟨b7, 0, none⟩) : Value) := (sk_old hk 7 (by kernel_rfl)).trans rfl
      have f7 := gd e7
      have hx := (hS.box (sg (hs 0 (by decide)))).box.2.2.2.1
      exact ro_pure (v := .agg (cv x)) (wanted_none rfl) (by simp [execOp, Act.eval, e7, f7, go_sem, hx]) (sp_same (by kernel_rfl) hl hs hS (show (.agg (cv x) : Value) = _ from rfl)) trivial
    refine SSteps.cons (fun a w' vs σ hS hl hs hk => ?_) ?_
    · have e18 : a.tmps.getD 18 undef = (.agg (cv x) : Value) := (sk_val hk 0 (by kernel_rfl) rfl rfl).trans ((hk.1 0 (by kernel_rfl)).1)
      have f18 := gd e18
      exact ro_call (f := 28) (wanted_none rfl) rfl (by simp only [List.map_toArray, List.map_cons, List.map_nil, Act.eval, e18] <;> rfl) (fun _ _ => by kernel_rfl) ((valid_no HV.out w' (hS.tabs HT.out)).mono fun e w2 ⟨h1, h2⟩ => ⟨_, h1, sp_same (by kernel_rfl) hl hs (hS.bel h2) rfl, trivial⟩)
    refine SSteps.cons (fun a w' vs σ hS hl hs hk => ?_) ?_
    · have e19 : a.tmps.getD 19 undef = (.bool false : Value) := (sk_val hk 1 (by kernel_rfl) rfl rfl).trans ((hk.1 1 (by kernel_rfl)).1)
      have f19 := gd e19
      exact ro_pure (v := .bool true) (wanted_none rfl) (by simp [execOp, Act.eval, e19, f19, go_sem]) (sp_same (by kernel_rfl) hl hs hS (show (.bool true : Value) = _ from rfl)) trivial
    refine SSteps.cons (fun a w' vs σ hS hl hs hk => ?_) ?_
    · have e20 : a.tmps.getD 20 undef = (.bool true : Value) := (sk_val hk 2 (by kernel_rfl) rfl rfl).trans ((hk.1 2 (by kernel_rfl)).1)
      have f20 := gd e20
      exact ro_pure (v := .bool true) (wanted_none rfl) (by simp [execOp, Act.eval, e20, f20, go_sem]) (sp_same (by kernel_rfl) hl hs hS (show (.bool true : Value) = _ from rfl)) trivial
    refine SSteps.cons (fun a w' vs σ hS hl hs hk => ?_) ?_
    · exact rs_skip (wanted_no rfl rfl rfl (show _ = _ from (sk_val hk 3 (by kernel_rfl) rfl rfl).trans ((hk.1 3 (by kernel_rfl)).1)) (by decide)) (sp_same (by kernel_rfl) hl hs hS trivial)
    refine SSteps.cons (fun a w' vs σ hS hl hs hk => ?_) ?_
    · exact rs_skip (wanted_no rfl rfl rfl (show _ = _ from (sk_val hk 3 (by kernel_rfl) rfl rfl).trans ((hk.1 3 (by kernel_rfl)).1)) (by decide)) (sp_same (by kernel_rfl) hl hs hS trivial)
    refine SSteps.cons (fun a w' vs σ hS hl hs hk => ?_) ?_
    · exact rs_skip (wanted_no rfl rfl rfl (show _ = _ from (sk_val hk 3 (by kernel_rfl) rfl rfl).trans ((hk.1 3 (by kernel_rfl)).1)) (by decide)) (sp_same (by kernel_rfl) hl hs hS trivial)
    refine SSteps.cons (fun a w' vs σ hS hl hs hk => ?_) ?_
    · have e21 : a.tmps.getD 21 undef = (.bool true : Value) := (sk_val hk 3 (by kernel_rfl) rfl rfl).trans ((hk.1 3 (by kernel_rfl)).1)
      have f21 := gd e21
      have e24 : a.tmps.getD 24 undef = vs 6 := sk_val hk 6 (by kernel_rfl) rfl rfl
      have p24 : (fun u : Value => True) (vs 6) := (hk.1 6 (by kernel_rfl)).1
      have f24 := gd e24
      exact ro_pure (v := .bool true) (wanted_none rfl) (by simp [execOp, Act.eval, e21, f21, e24, f24, go_sem]) (sp_same (by kernel_rfl) hl hs hS (show (.bool true : Value) = _ from rfl)) trivial
    refine SSteps.cons (fun a w' vs σ hS hl hs hk => ?_) ?_
    · have e25 : a.tmps.getD 25 undef = (.bool true : Value) := (sk_val hk 7 (by kernel_rfl) rfl rfl).trans ((hk.1 7 (by kernel_rfl)).1)
      have f25 := gd e25
      exact ro_pure (v := .bool true) (wanted_none rfl) (by simp [execOp, Act.eval, e25, f25, go_sem]) (sp_same (by kernel_rfl) hl hs hS (show (.bool true : Value) = _ from rfl)) trivial
    refine SSteps.cons (fun a w' vs σ hS hl hs hk => ?_) ?_
    · exact rs_skip (wanted_no rfl rfl rfl (show _ = _ from (sk_val hk 8 (by kernel_rfl) rfl rfl).trans ((hk.1 8 (by kernel_rfl)).1)) (by decide)) (sp_same (by kernel_rfl) hl hs hS trivial)
    refine SSteps.cons (fun a w' vs σ hS hl hs hk => ?_) ?_
    · exact rs_skip (wanted_no rfl rfl rfl (show _ = _ from (sk_val hk 8 (by kernel_rfl) rfl rfl).trans ((hk.1 8 (by kernel_rfl)).1)) (by decide)) (sp_same (by kernel_rfl) hl hs hS trivial)
    refine SSteps.cons (fun a w' vs σ hS hl hs hk => ?_) ?_
    · exact rs_skip (wanted_no rfl rfl rfl (show _ = _ from (sk_val hk 8 (by kernel_rfl) rfl rfl).trans ((hk.1 8 (by kernel_rfl)).1)) (by decide)) (sp_same (by kernel_rfl) hl hs hS trivial)
    refine SSteps.cons (fun a w' vs σ hS hl hs hk => ?_) ?_
    · exact rs_skip (wanted_no rfl rfl rfl (show _ = _ from (sk_val hk 8 (by kernel_rfl) rfl rfl).trans ((hk.1 8 (by kernel_rfl)).1)) (by decide)) (sp_same (by kernel_rfl) hl hs hS trivial)
    refine SSteps.cons (fun a w' vs σ hS hl hs hk => ?_) ?_
    · exact rs_skip (wanted_no rfl rfl rfl (show _ = _ from (sk_val hk 8 (by kernel_rfl) rfl rfl).trans ((hk.1 8 (by kernel_rfl)).1)) (by decide)) (sp_same (by kernel_rfl) hl hs hS trivial)
    refine SSteps.cons (fun a w' vs σ hS hl hs hk => ?_) ?_
    · exact rs_skip (wanted_no rfl rfl rfl (show _ = _ from (sk_val hk 8 (by kernel_rfl) rfl rfl).trans ((hk.1 8 (by kernel_rfl)).1)) (by decide)) (sp_same (by kernel_rfl) hl hs hS trivial)
    refine SSteps.cons (fun a w' vs σ hS hl hs hk => ?_) ?_
    · exact rs_skip (wanted_no rfl rfl rfl (show _ = _ from (sk_val hk 8 (by kernel_rfl) rfl rfl).trans ((hk.1 8 (by kernel_rfl)).1)) (by decide)) (sp_same (by kernel_rfl) hl hs hS trivial)
    refine SSteps.cons (fun a w' vs σ hS hl hs hk => ?_) ?_
    · exact rs_skip (wanted_no rfl rfl rfl (show _ = _ from (sk_val hk 8 (by kernel_rfl) rfl rfl).trans ((hk.1 8 (by kernel_rfl)).1)) (by decide)) (sp_same (by kernel_rfl) hl hs hS trivial)
    refine SSteps.cons (fun a w' vs σ hS hl hs hk => ?_) ?_
    · exact rs_skip (wanted_no rfl rfl rfl (show _ = _ from (sk_val hk 8 (by kernel_rfl) rfl rfl).trans ((hk.1 8 (by kernel_rfl)).1)) (by decide)) (sp_same (by kernel_rfl) hl hs hS trivial)
    refine SSteps.cons (fun a w' vs σ hS hl hs hk => ?_) ?_
    · have e26 : a.tmps.getD 26 undef = (.bool true : Value) := (sk_val hk 8 (by kernel_rfl) rfl rfl).trans ((hk.1 8 (by kernel_rfl)).1)
      have f26 := gd e26
      have e35 : a.tmps.getD 35 undef = vs 17 := sk_val hk 17 (by kernel_rfl) rfl rfl
      have p35 : (fun u : Value => True) (vs 17) := (hk.1 17 (by kernel_rfl)).1
      have f35 := gd e35
      exact ro_pure (v := .bool true) (wanted_none rfl) (by simp [execOp, Act.eval, e26, f26, e35, f35, go_sem]) (sp_same (by kernel_rfl) hl hs hS (show (.bool true : Value) = _ from rfl)) trivial
    exact SSteps.nil
  · intro vs w' hS hv
    have q0 := (show vs 0 = (.agg (cv x) : Value) from hv 0 (by decide))
    have q1 := (show vs 1 = (.bool false : Value) from hv 1 (by decide))
    have q2 := (show vs 2 = (.bool true : Value) from hv 2 (by decide))
    have q3 := (show vs 3 = (.bool true : Value) from hv 3 (by decide))
    have q7 := (show vs 7 = (.bool true : Value) from hv 7 (by decide))
    have q8 := (show vs 8 = (.bool true : Value) from hv 8 (by decide))
    have q18 := (show vs 18 = (.bool true : Value) from hv 18 (by decide))
    have S2 := Lib.hid hS
    simp only [putL, Act.put, Nat.zero_add, Nat.reduceAdd, List.setIfInBounds_toArray, List.set_cons_succ, List.set_cons_zero, q0, q1, q2, q3, q7, q8, q18]
    clear hS hv q0 q1 q2 q3 q7 q8 q18
    go_wp2_with fail
    go_ret
    exact ⟨rfl, S2.out.tail⟩
set_option maxRecDepth 100000 in
set_option maxHeartbeats 2000000 in
theorem Put_bad2 {i j : Nat} (x : Cell) (hT : Tabs w0) (hS : Objs w0 w (.grid p 35 cols L :: os)) (hc : 0 < cols) (hcm : cols ≤ 1000) (hi : i < L.length) (hj : j < cols) (hv : x.ok = true) (hw : x.width = 0) :
    Calls Tryd.prog 43 #[.pointer (some ⟨p, 0, none⟩), .int .i64 i, .int .i64 j, .agg (cv x)] w fun e w' => e = .returned (.int .i64 2) ∧ Objs w0 w' (.grid p 35 cols L :: os) := by
  have S := Lib.hid hS
  have HT := Lib.hid hT
  have HE := Lib.hid (show atE i j cols L = 0 by unfold atE; rw [if_pos ⟨⟨by omega, by omega⟩, by omega, by omega⟩])
  clear hS hT
  have HV := Lib.hid hv
  have hw0 := beq_yes hw
  have HW := Lib.hid hw
  clear hv hw
  go_enter Tryd.func43, Tryd.ntmps43
  go_wp2_with fail
  refine (at_any _ _ S.out.alloc1 (k := 1) rfl hc).mono ?_
  rw [HE.out]
  rintro e w1 ⟨rfl, hS⟩
  have S1 := Lib.hid hS
  clear hS S
  generalize w.heap.size = b7 at S1 ⊢
  go_upto_region 4 with (fail)
  refine wp_region_stage (w0 := w0) (os := os) (by kernel_rfl) (by kernel_rfl) (by kernel_rfl) [] [[0], [], [], [], [], [0], [], [], [], [], [], [], [], [], [], [], [], [], []] [.box b7 65 (cv x), .grid p 35 cols L] (fun i u => match i with | 0 => u = (.agg (cv x) : Value) | 1 => u = (.bool true : Value) | 2 => u = (.bool false : Value) | 3 => u = (.bool false : Value) | 4 => u = (.pointer (some ⟨b7, 4, none⟩) : Value) | 5 => u = (.int .i64 x.width : Value) | 6 => u = (.bool true : Value) | 7 => u = (.bool true : Value) | 8 => u = (.bool true : Value) | 9 => True | 10 => True | 11 => True | 12 => True | 13 => True | 14 => True | 15 => True | 16 => True | 17 => True | 18 => u = (.bool true : Value) | _ => True) (fun vs => [.box b7 65 (cv x), .grid p 35 cols L]) (by kernel_rfl) (fun vs => by rfl) S1.out ?_ ?_
  · refine SSteps.cons (fun a w' vs σ hS hl hs hk => ?_) ?_
    · have e7 : a.tmps.getD 7 undef = (.pointer (some ⟨b7, 0, none⟩) : Value) := (sk_old hk 7 (by kernel_rfl)).trans rfl
      have f7 := gd e7
      have hx := (hS.box (sg (hs 0 (by decide)))).box.2.2.2.1
      exact ro_pure (v := .agg (cv x)) (wanted_none rfl) (by simp [execOp, Act.eval, e7, f7, go_sem, hx]) (sp_same (by kernel_rfl) hl hs hS (show (.agg (cv x) : Value) = _ from rfl)) trivial
    refine SSteps.cons (fun a w' vs σ hS hl hs hk => ?_) ?_
    · have e18 : a.tmps.getD 18 undef = (.agg (cv x) : Value) := (sk_val hk 0 (by kernel_rfl) rfl rfl).trans ((hk.1 0 (by kernel_rfl)).1)
      have f18 := gd e18
      exact ro_call (f := 28) (wanted_none rfl) rfl (by simp only [List.map_toArray, List.map_cons, List.map_nil, Act.eval, e18] <;> rfl) (fun _ _ => by kernel_rfl) ((valid_yes HV.out w' (hS.tabs HT.out)).mono fun e w2 ⟨h1, h2⟩ => ⟨_, h1, sp_same (by kernel_rfl) hl hs (hS.bel h2) rfl, trivial⟩)
    refine SSteps.cons (fun a w' vs σ hS hl hs hk => ?_) ?_
    · have e19 : a.tmps.getD 19 undef = (.bool true : Value) := (sk_val hk 1 (by kernel_rfl) rfl rfl).trans ((hk.1 1 (by kernel_rfl)).1)
      have f19 := gd e19
      exact ro_pure (v := .bool false) (wanted_none rfl) (by simp [execOp, Act.eval, e19, f19, go_sem]) (sp_same (by kernel_rfl) hl hs hS (show (.bool false : Value) = _ from rfl)) trivial
    refine SSteps.cons (fun a w' vs σ hS hl hs hk => ?_) ?_
    · have e20 : a.tmps.getD 20 undef = (.bool false : Value) := (sk_val hk 2 (by kernel_rfl) rfl rfl).trans ((hk.1 2 (by kernel_rfl)).1)
      have f20 := gd e20
      exact ro_pure (v := .bool false) (wanted_none rfl) (by simp [execOp, Act.eval, e20, f20, go_sem]) (sp_same (by kernel_rfl) hl hs hS (show (.bool false : Value) = _ from rfl)) trivial
    refine SSteps.cons (fun a w' vs σ hS hl hs hk => ?_) ?_
    · have e7 : a.tmps.getD 7 undef = (.pointer (some ⟨b7, 0, none⟩) : Value) := (sk_old hk 7 (by kernel_rfl)).trans rfl
      have f7 := gd e7
      exact ro_pure (v := .pointer (some ⟨b7, 4, none⟩)) (wanted_yes rfl rfl rfl (show _ = _ from (sk_val hk 3 (by kernel_rfl) rfl rfl).trans ((hk.1 3 (by kernel_rfl)).1))) (by simp [execOp, Act.eval, e7, f7, go_sem]) (sp_same (by kernel_rfl) hl hs hS (show (.pointer (some ⟨b7, 4, none⟩) : Value) = _ from rfl)) trivial
    refine SSteps.cons (fun a w' vs σ hS hl hs hk => ?_) ?_
    · have e22 : a.tmps.getD 22 undef = (.pointer (some ⟨b7, 4, none⟩) : Value) := (sk_val hk 4 (by kernel_rfl) rfl rfl).trans ((hk.1 4 (by kernel_rfl)).1)
      have f22 := gd e22
      have hx := (hS.box (sg (hs 0 (by decide)))).box.1
      exact ro_pure (v := .int .i64 x.width) (wanted_yes rfl rfl rfl (show _ = _ from (sk_val hk 3 (by kernel_rfl) rfl rfl).trans ((hk.1 3 (by kernel_rfl)).1))) (by simp [execOp, Act.eval, e22, f22, go_sem, hx]) (sp_same (by kernel_rfl) hl hs hS (show (.int .i64 x.width : Value) = _ from rfl)) trivial
    refine SSteps.cons (fun a w' vs σ hS hl hs hk => ?_) ?_
    · have e23 : a.tmps.getD 23 undef = (.int .i64 x.width : Value) := (sk_val hk 5 (by kernel_rfl) rfl rfl).trans ((hk.1 5 (by kernel_rfl)).1)
      have f23 := gd e23
      exact ro_pure (v := .bool true) (wanted_yes rfl rfl rfl (show _ = _ from (sk_val hk 3 (by kernel_rfl) rfl rfl).trans ((hk.1 3 (by kernel_rfl)).1))) (by simp [execOp, Act.eval, e23, f23, go_sem, hw0]) (sp_same (by kernel_rfl) hl hs hS (show (.bool true : Value) = _ from rfl)) trivial
    refine SSteps.cons (fun a w' vs σ hS hl hs hk => ?_) ?_
    · have e21 : a.tmps.getD 21 undef = (.bool false : Value) := (sk_val hk 3 (by kernel_rfl) rfl rfl).trans ((hk.1 3 (by kernel_rfl)).1)
      have f21 := gd e21
      have e24 : a.tmps.getD 24 undef = (.bool true : Value) := (sk_val hk 6 (by kernel_rfl) rfl rfl).trans ((hk.1 6 (by kernel_rfl)).1)
      have f24 := gd e24
      exact ro_pure (v := .bool true) (wanted_none rfl) (by simp [execOp, Act.eval, e21, f21, e24, f24, go_sem]) (sp_same (by kernel_rfl) hl hs hS (show (.bool true : Value) = _ from rfl)) trivial
    refine SSteps.cons (fun a w' vs σ hS hl hs hk => ?_) ?_
    · have e25 : a.tmps.getD 25 undef = (.bool true : Value) := (sk_val hk 7 (by kernel_rfl) rfl rfl).trans ((hk.1 7 (by kernel_rfl)).1)
      have f25 := gd e25
      exact ro_pure (v := .bool true) (wanted_none rfl) (by simp [execOp, Act.eval, e25, f25, go_sem]) (sp_same (by kernel_rfl) hl hs hS (show (.bool true : Value) = _ from rfl)) trivial
    refine SSteps.cons (fun a w' vs σ hS hl hs hk => ?_) ?_
    · exact rs_skip (wanted_no rfl rfl rfl (show _ = _ from (sk_val hk 8 (by kernel_rfl) rfl rfl).trans ((hk.1 8 (by kernel_rfl)).1)) (by decide)) (sp_same (by kernel_rfl) hl hs hS trivial)
    refine SSteps.cons (fun a w' vs σ hS hl hs hk => ?_) ?_
    · exact rs_skip (wanted_no rfl rfl rfl (show _ = _ from (sk_val hk 8 (by kernel_rfl) rfl rfl).trans ((hk.1 8 (by kernel_rfl)).1)) (by decide)) (sp_same (by kernel_rfl) hl hs hS trivial)
    refine SSteps.cons (fun a w' vs σ hS hl hs hk => ?_) ?_
    · exact rs_skip (wanted_no rfl rfl rfl (show _ = _ from (sk_val hk 8 (by kernel_rfl) rfl rfl).trans ((hk.1 8 (by kernel_rfl)).1)) (by decide)) (sp_same (by kernel_rfl) hl hs hS trivial)
    refine SSteps.cons (fun a w' vs σ hS hl hs hk => ?_) ?_
    · exact rs_skip (wanted_no rfl rfl rfl (show _ = _ from (sk_val hk 8 (by kernel_rfl) rfl rfl).trans ((hk.1 8 (by kernel_rfl)).1)) (by decide)) (sp_same (by kernel_rfl) hl hs hS trivial)
    refine SSteps.cons (fun a w' vs σ hS hl hs hk => ?_) ?_
    · exact rs_skip (wanted_no rfl rfl rfl (show _ = _ from (sk_val hk 8 (by kernel_rfl) rfl rfl).trans ((hk.1 8 (by kernel_rfl)).1)) (by decide)) (sp_same (by kernel_rfl) hl hs hS trivial)
    refine SSteps.cons (fun a w' vs σ hS hl hs hk => ?_) ?_
    · exact rs_skip (wanted_no rfl rfl rfl (show _ = _ from (sk_val hk 8 (by kernel_rfl) rfl rfl).trans ((hk.1 8 (by kernel_rfl)).1)) (by decide)) (sp_same (by kernel_rfl) hl hs hS trivial)
    refine SSteps.cons (fun a w' vs σ hS hl hs hk => ?_) ?_
    · exact rs_skip (wanted_no rfl rfl rfl (show _ = _ from (sk_val hk 8 (by kernel_rfl) rfl rfl).trans ((hk.1 8 (by kernel_rfl)).1)) (by decide)) (sp_same (by kernel_rfl) hl hs hS trivial)
    refine SSteps.cons (fun a w' vs σ hS hl hs hk => ?_) ?_
    · exact rs_skip (wanted_no rfl rfl rfl (show _ = _ from (sk_val hk 8 (by kernel_rfl) rfl rfl).trans ((hk.1 8 (by kernel_rfl)).1)) (by decide)) (sp_same (by kernel_rfl) hl hs hS trivial)
    refine SSteps.cons (fun a w' vs σ hS hl hs hk => ?_) ?_
    · exact rs_skip (wanted_no rfl rfl rfl (show _ = _ from (sk_val hk 8 (by kernel_rfl) rfl rfl).trans ((hk.1 8 (by kernel_rfl)).1)) (by decide)) (sp_same (by kernel_rfl) hl hs hS trivial)
    refine SSteps.cons (fun a w' vs σ hS hl hs hk => ?_) ?_
    · have e26 : a.tmps.getD 26 undef = (.bool true : Value) := (sk_val hk 8 (by kernel_rfl) rfl rfl).trans ((hk.1 8 (by kernel_rfl)).1)
      have f26 := gd e26
      have e35 : a.tmps.getD 35 undef = vs 17 := sk_val hk 17 (by kernel_rfl) rfl rfl
      have p35 : (fun u : Value => True) (vs 17) := (hk.1 17 (by kernel_rfl)).1
      have f35 := gd e35
      exact ro_pure (v := .bool true) (wanted_none rfl) (by simp [execOp, Act.eval, e26, f26, e35, f35, go_sem]) (sp_same (by kernel_rfl) hl hs hS (show (.bool true : Value) = _ from rfl)) trivial
    exact SSteps.nil
  · intro vs w' hS hv
    have q0 := (show vs 0 = (.agg (cv x) : Value) from hv 0 (by decide))
    have q1 := (show vs 1 = (.bool true : Value) from hv 1 (by decide))
    have q2 := (show vs 2 = (.bool false : Value) from hv 2 (by decide))
    have q3 := (show vs 3 = (.bool false : Value) from hv 3 (by decide))
    have q4 := (show vs 4 = (.pointer (some ⟨b7, 4, none⟩) : Value) from hv 4 (by decide))
    have q5 := (show vs 5 = (.int .i64 x.width : Value) from hv 5 (by decide))
    have q6 := (show vs 6 = (.bool true : Value) from hv 6 (by decide))
    have q7 := (show vs 7 = (.bool true : Value) from hv 7 (by decide))
    have q8 := (show vs 8 = (.bool true : Value) from hv 8 (by decide))
    have q18 := (show vs 18 = (.bool true : Value) from hv 18 (by decide))
    have S2 := Lib.hid hS
    simp only [putL, Act.put, Nat.zero_add, Nat.reduceAdd, List.setIfInBounds_toArray, List.set_cons_succ, List.set_cons_zero, q0, q1, q2, q3, q4, q5, q6, q7, q8, q18]
    clear hS hv q0 q1 q2 q3 q4 q5 q6 q7 q8 q18
    go_wp2_with fail
    go_ret
    exact ⟨rfl, S2.out.tail⟩
set_option maxRecDepth 100000 in
set_option maxHeartbeats 2000000 in
theorem Put_bad3 {i j : Nat} (x : Cell) (hT : Tabs w0) (hS : Objs w0 w (.grid p 35 cols L :: os)) (hc : 0 < cols) (hcm : cols ≤ 1000) (hi : i < L.length) (hj : j < cols) (hv : x.ok = true) (hw : ¬ x.width = 0) (hov : (cols : Int) < j + x.width) :
    Calls Tryd.prog 43 #[.pointer (some ⟨p, 0, none⟩), .int .i64 i, .int .i64 j, .agg (cv x)] w fun e w' => e = .returned (.int .i64 2) ∧ Objs w0 w' (.grid p 35 cols L :: os) := by
  have S := Lib.hid hS
  have HT := Lib.hid hT
  have HE := Lib.hid (show atE i j cols L = 0 by unfold atE; rw [if_pos ⟨⟨by omega, by omega⟩, by omega, by omega⟩])
  clear hS hT
  have HV := Lib.hid hv
  have hw0 := beq_no hw
  have hxw : 0 ≤ x.width ∧ x.width ≤ 2 := by rcases ok_width hv with h | h | h <;> omega
  have hsum : IntKind.i64.wrap ((j : Int) + x.width) = j + x.width := IntWalk.i64_in _ (by omega)
  have HW := Lib.hid hw
  clear hv hw
  go_enter Tryd.func43, Tryd.ntmps43
  go_wp2_with fail
  refine (at_any _ _ S.out.alloc1 (k := 1) rfl hc).mono ?_
  rw [HE.out]
  rintro e w1 ⟨rfl, hS⟩
  have S1 := Lib.hid hS
  clear hS S
  generalize w.heap.size = b7 at S1 ⊢
  go_upto_region 4 with (fail)
  refine wp_region_stage (w0 := w0) (os := os) (by kernel_rfl) (by kernel_rfl) (by kernel_rfl) [] [[0], [], [], [], [], [0], [], [], [], [], [], [0], [], [], [], [], [1], [], []] [.box b7 65 (cv x), .grid p 35 cols L] (fun i u => match i with | 0 => u = (.agg (cv x) : Value) | 1 => u = (.bool true : Value) | 2 => u = (.bool false : Value) | 3 => u = (.bool false : Value) | 4 => u = (.pointer (some ⟨b7, 4, none⟩) : Value) | 5 => u = (.int .i64 x.width : Value) | 6 => u = (.bool false : Value) | 7 => u = (.bool false : Value) | 8 => u = (.bool false : Value) | 9 => u = (.int .i64 ↑j : Value) | 10 => u = (.pointer (some ⟨b7, 4, none⟩) : Value) | 11 => u = (.int .i64 x.width : Value) | 12 => u = (.int .i64 (↑j + x.width) : Value) | 13 => u = (.pointer (some ⟨p, 0, none⟩) : Value) | 14 => u = (.pointer (some ⟨p, 0, none⟩) : Value) | 15 => u = (.pointer (some ⟨p, 0, none⟩) : Value) | 16 => u = (.int .i64 ↑cols : Value) | 17 => u = (.bool true : Value) | 18 => u = (.bool true : Value) | _ => True) (fun vs => [.box b7 65 (cv x), .grid p 35 cols L]) (by kernel_rfl) (fun vs => by rfl) S1.out ?_ ?_
  · refine SSteps.cons (fun a w' vs σ hS hl hs hk => ?_) ?_
    · have e7 : a.tmps.getD 7 undef = (.pointer (some ⟨b7, 0, none⟩) : Value) := (sk_old hk 7 (by kernel_rfl)).trans rfl
      have f7 := gd e7
      have hx := (hS.box (sg (hs 0 (by decide)))).box.2.2.2.1
      exact ro_pure (v := .agg (cv x)) (wanted_none rfl) (by simp [execOp, Act.eval, e7, f7, go_sem, hx]) (sp_same (by kernel_rfl) hl hs hS (show (.agg (cv x) : Value) = _ from rfl)) trivial
    refine SSteps.cons (fun a w' vs σ hS hl hs hk => ?_) ?_
    · have e18 : a.tmps.getD 18 undef = (.agg (cv x) : Value) := (sk_val hk 0 (by kernel_rfl) rfl rfl).trans ((hk.1 0 (by kernel_rfl)).1)
      have f18 := gd e18
      exact ro_call (f := 28) (wanted_none rfl) rfl (by simp only [List.map_toArray, List.map_cons, List.map_nil, Act.eval, e18] <;> rfl) (fun _ _ => by kernel_rfl) ((valid_yes HV.out w' (hS.tabs HT.out)).mono fun e w2 ⟨h1, h2⟩ => ⟨_, h1, sp_same (by kernel_rfl) hl hs (hS.bel h2) rfl, trivial⟩)
    refine SSteps.cons (fun a w' vs σ hS hl hs hk => ?_) ?_
    · have e19 : a.tmps.getD 19 undef = (.bool true : Value) := (sk_val hk 1 (by kernel_rfl) rfl rfl).trans ((hk.1 1 (by kernel_rfl)).1)
      have f19 := gd e19
      exact ro_pure (v := .bool false) (wanted_none rfl) (by simp [execOp, Act.eval, e19, f19, go_sem]) (sp_same (by kernel_rfl) hl hs hS (show (.bool false : Value) = _ from rfl)) trivial
    refine SSteps.cons (fun a w' vs σ hS hl hs hk => ?_) ?_
    · have e20 : a.tmps.getD 20 undef = (.bool false : Value) := (sk_val hk 2 (by kernel_rfl) rfl rfl).trans ((hk.1 2 (by kernel_rfl)).1)
      have f20 := gd e20
      exact ro_pure (v := .bool false) (wanted_none rfl) (by simp [execOp, Act.eval, e20, f20, go_sem]) (sp_same (by kernel_rfl) hl hs hS (show (.bool false : Value) = _ from rfl)) trivial
    refine SSteps.cons (fun a w' vs σ hS hl hs hk => ?_) ?_
    · have e7 : a.tmps.getD 7 undef = (.pointer (some ⟨b7, 0, none⟩) : Value) := (sk_old hk 7 (by kernel_rfl)).trans rfl
      have f7 := gd e7
      exact ro_pure (v := .pointer (some ⟨b7, 4, none⟩)) (wanted_yes rfl rfl rfl (show _ = _ from (sk_val hk 3 (by kernel_rfl) rfl rfl).trans ((hk.1 3 (by kernel_rfl)).1))) (by simp [execOp, Act.eval, e7, f7, go_sem]) (sp_same (by kernel_rfl) hl hs hS (show (.pointer (some ⟨b7, 4, none⟩) : Value) = _ from rfl)) trivial
    refine SSteps.cons (fun a w' vs σ hS hl hs hk => ?_) ?_
    · have e22 : a.tmps.getD 22 undef = (.pointer (some ⟨b7, 4, none⟩) : Value) := (sk_val hk 4 (by kernel_rfl) rfl rfl).trans ((hk.1 4 (by kernel_rfl)).1)
      have f22 := gd e22
      have hx := (hS.box (sg (hs 0 (by decide)))).box.1
      exact ro_pure (v := .int .i64 x.width) (wanted_yes rfl rfl rfl (show _ = _ from (sk_val hk 3 (by kernel_rfl) rfl rfl).trans ((hk.1 3 (by kernel_rfl)).1))) (by simp [execOp, Act.eval, e22, f22, go_sem, hx]) (sp_same (by kernel_rfl) hl hs hS (show (.int .i64 x.width : Value) = _ from rfl)) trivial
    refine SSteps.cons (fun a w' vs σ hS hl hs hk => ?_) ?_
    · have e23 : a.tmps.getD 23 undef = (.int .i64 x.width : Value) := (sk_val hk 5 (by kernel_rfl) rfl rfl).trans ((hk.1 5 (by kernel_rfl)).1)
      have f23 := gd e23
      exact ro_pure (v := .bool false) (wanted_yes rfl rfl rfl (show _ = _ from (sk_val hk 3 (by kernel_rfl) rfl rfl).trans ((hk.1 3 (by kernel_rfl)).1))) (by simp [execOp, Act.eval, e23, f23, go_sem, hw0]) (sp_same (by kernel_rfl) hl hs hS (show (.bool false : Value) = _ from rfl)) trivial
    refine SSteps.cons (fun a w' vs σ hS hl hs hk => ?_) ?_
    · have e21 : a.tmps.getD 21 undef = (.bool false : Value) := (sk_val hk 3 (by kernel_rfl) rfl rfl).trans ((hk.1 3 (by kernel_rfl)).1)
      have f21 := gd e21
      have e24 : a.tmps.getD 24 undef = (.bool false : Value) := (sk_val hk 6 (by kernel_rfl) rfl rfl).trans ((hk.1 6 (by kernel_rfl)).1)
      have f24 := gd e24
      exact ro_pure (v := .bool false) (wanted_none rfl) (by simp [execOp, Act.eval, e21, f21, e24, f24, go_sem]) (sp_same (by kernel_rfl) hl hs hS (show (.bool false : Value) = _ from rfl)) trivial
    refine SSteps.cons (fun a w' vs σ hS hl hs hk => ?_) ?_
    · have e25 : a.tmps.getD 25 undef = (.bool false : Value) := (sk_val hk 7 (by kernel_rfl) rfl rfl).trans ((hk.1 7 (by kernel_rfl)).1)
      have f25 := gd e25
      exact ro_pure (v := .bool false) (wanted_none rfl) (by simp [execOp, Act.eval, e25, f25, go_sem]) (sp_same (by kernel_rfl) hl hs hS (show (.bool false : Value) = _ from rfl)) trivial
    refine SSteps.cons (fun a w' vs σ hS hl hs hk => ?_) ?_
    · have e2 : a.tmps.getD 2 undef = (.int .i64 ↑j : Value) := (sk_old hk 2 (by kernel_rfl)).trans rfl
      have f2 := gd e2
      exact ro_pure (v := .int .i64 ↑j) (wanted_yes rfl rfl rfl (show _ = _ from (sk_val hk 8 (by kernel_rfl) rfl rfl).trans ((hk.1 8 (by kernel_rfl)).1))) (by simp [execOp, Act.eval, e2, f2, go_sem]) (sp_same (by kernel_rfl) hl hs hS (show (.int .i64 ↑j : Value) = _ from rfl)) trivial
    refine SSteps.cons (fun a w' vs σ hS hl hs hk => ?_) ?_
    · have e7 : a.tmps.getD 7 undef = (.pointer (some ⟨b7, 0, none⟩) : Value) := (sk_old hk 7 (by kernel_rfl)).trans rfl
      have f7 := gd e7
      exact ro_pure (v := .pointer (some ⟨b7, 4, none⟩)) (wanted_yes rfl rfl rfl (show _ = _ from (sk_val hk 8 (by kernel_rfl) rfl rfl).trans ((hk.1 8 (by kernel_rfl)).1))) (by simp [execOp, Act.eval, e7, f7, go_sem]) (sp_same (by kernel_rfl) hl hs hS (show (.pointer (some ⟨b7, 4, none⟩) : Value) = _ from rfl)) trivial
    refine SSteps.cons (fun a w' vs σ hS hl hs hk => ?_) ?_
    · have e28 : a.tmps.getD 28 undef = (.pointer (some ⟨b7, 4, none⟩) : Value) := (sk_val hk 10 (by kernel_rfl) rfl rfl).trans ((hk.1 10 (by kernel_rfl)).1)
      have f28 := gd e28
      have hx := (hS.box (sg (hs 0 (by decide)))).box.1
      exact ro_pure (v := .int .i64 x.width) (wanted_yes rfl rfl rfl (show _ = _ from (sk_val hk 8 (by kernel_rfl) rfl rfl).trans ((hk.1 8 (by kernel_rfl)).1))) (by simp [execOp, Act.eval, e28, f28, go_sem, hx]) (sp_same (by kernel_rfl) hl hs hS (show (.int .i64 x.width : Value) = _ from rfl)) trivial
    refine SSteps.cons (fun a w' vs σ hS hl hs hk => ?_) ?_
    · have e27 : a.tmps.getD 27 undef = (.int .i64 ↑j : Value) := (sk_val hk 9 (by kernel_rfl) rfl rfl).trans ((hk.1 9 (by kernel_rfl)).1)
      have f27 := gd e27
      have e29 : a.tmps.getD 29 undef = (.int .i64 x.width : Value) := (sk_val hk 11 (by kernel_rfl) rfl rfl).trans ((hk.1 11 (by kernel_rfl)).1)
      have f29 := gd e29
      exact ro_pure (v := .int .i64 (↑j + x.width)) (wanted_yes rfl rfl rfl (show _ = _ from (sk_val hk 8 (by kernel_rfl) rfl rfl).trans ((hk.1 8 (by kernel_rfl)).1))) (by simp [execOp, Act.eval, e27, f27, e29, f29, go_sem, hsum]) (sp_same (by kernel_rfl) hl hs hS (show (.int .i64 (↑j + x.width) : Value) = _ from rfl)) trivial
    refine SSteps.cons (fun a w' vs σ hS hl hs hk => ?_) ?_
    · have e0 : a.tmps.getD 0 undef = (.pointer (some ⟨p, 0, none⟩) : Value) := (sk_old hk 0 (by kernel_rfl)).trans rfl
      have f0 := gd e0
      exact ro_pure (v := .pointer (some ⟨p, 0, none⟩)) (wanted_yes rfl rfl rfl (show _ = _ from (sk_val hk 8 (by kernel_rfl) rfl rfl).trans ((hk.1 8 (by kernel_rfl)).1))) (by simp [execOp, Act.eval, e0, f0, go_sem]) (sp_same (by kernel_rfl) hl hs hS (show (.pointer (some ⟨p, 0, none⟩) : Value) = _ from rfl)) trivial
    refine SSteps.cons (fun a w' vs σ hS hl hs hk => ?_) ?_
    · have e31 : a.tmps.getD 31 undef = (.pointer (some ⟨p, 0, none⟩) : Value) := (sk_val hk 13 (by kernel_rfl) rfl rfl).trans ((hk.1 13 (by kernel_rfl)).1)
      have f31 := gd e31
      exact ro_pure (v := .pointer (some ⟨p, 0, none⟩)) (wanted_yes rfl rfl rfl (show _ = _ from (sk_val hk 8 (by kernel_rfl) rfl rfl).trans ((hk.1 8 (by kernel_rfl)).1))) (by simp [execOp, Act.eval, e31, f31, go_sem]) (sp_same (by kernel_rfl) hl hs hS (show (.pointer (some ⟨p, 0, none⟩) : Value) = _ from rfl)) trivial
    refine SSteps.cons (fun a w' vs σ hS hl hs hk => ?_) ?_
    · have e32 : a.tmps.getD 32 undef = (.pointer (some ⟨p, 0, none⟩) : Value) := (sk_val hk 14 (by kernel_rfl) rfl rfl).trans ((hk.1 14 (by kernel_rfl)).1)
      have f32 := gd e32
      exact ro_pure (v := .pointer (some ⟨p, 0, none⟩)) (wanted_yes rfl rfl rfl (show _ = _ from (sk_val hk 8 (by kernel_rfl) rfl rfl).trans ((hk.1 8 (by kernel_rfl)).1))) (by simp [execOp, Act.eval, e32, f32, go_sem]) (sp_same (by kernel_rfl) hl hs hS (show (.pointer (some ⟨p, 0, none⟩) : Value) = _ from rfl)) trivial
    refine SSteps.cons (fun a w' vs σ hS hl hs hk => ?_) ?_
    · have e33 : a.tmps.getD 33 undef = (.pointer (some ⟨p, 0, none⟩) : Value) := (sk_val hk 15 (by kernel_rfl) rfl rfl).trans ((hk.1 15 (by kernel_rfl)).1)
      have f33 := gd e33
      obtain ⟨A1, c1, hB1, -, -⟩ := hS.gridRd (sg (hs 1 (by decide)))
      have hx := hB1.cell
      exact ro_pure (v := .int .i64 ↑cols) (wanted_yes rfl rfl rfl (show _ = _ from (sk_val hk 8 (by kernel_rfl) rfl rfl).trans ((hk.1 8 (by kernel_rfl)).1))) (by simp [execOp, Act.eval, e33, f33, go_sem, hx]) (sp_same (by kernel_rfl) hl hs hS (show (.int .i64 ↑cols : Value) = _ from rfl)) trivial
    refine SSteps.cons (fun a w' vs σ hS hl hs hk => ?_) ?_
    · have e30 : a.tmps.getD 30 undef = (.int .i64 (↑j + x.width) : Value) := (sk_val hk 12 (by kernel_rfl) rfl rfl).trans ((hk.1 12 (by kernel_rfl)).1)
      have f30 := gd e30
      have e34 : a.tmps.getD 34 undef = (.int .i64 ↑cols : Value) := (sk_val hk 16 (by kernel_rfl) rfl rfl).trans ((hk.1 16 (by kernel_rfl)).1)
      have f34 := gd e34
      exact ro_pure (v := .bool true) (wanted_yes rfl rfl rfl (show _ = _ from (sk_val hk 8 (by kernel_rfl) rfl rfl).trans ((hk.1 8 (by kernel_rfl)).1))) (by simp [execOp, Act.eval, e30, f30, e34, f34, go_sem, hov]) (sp_same (by kernel_rfl) hl hs hS (show (.bool true : Value) = _ from rfl)) trivial
    refine SSteps.cons (fun a w' vs σ hS hl hs hk => ?_) ?_
    · have e26 : a.tmps.getD 26 undef = (.bool false : Value) := (sk_val hk 8 (by kernel_rfl) rfl rfl).trans ((hk.1 8 (by kernel_rfl)).1)
      have f26 := gd e26
      have e35 : a.tmps.getD 35 undef = (.bool true : Value) := (sk_val hk 17 (by kernel_rfl) rfl rfl).trans ((hk.1 17 (by kernel_rfl)).1)
      have f35 := gd e35
      exact ro_pure (v := .bool true) (wanted_none rfl) (by simp [execOp, Act.eval, e26, f26, e35, f35, go_sem]) (sp_same (by kernel_rfl) hl hs hS (show (.bool true : Value) = _ from rfl)) trivial
    exact SSteps.nil
  · intro vs w' hS hv
    have q0 := (show vs 0 = (.agg (cv x) : Value) from hv 0 (by decide))
    have q1 := (show vs 1 = (.bool true : Value) from hv 1 (by decide))
    have q2 := (show vs 2 = (.bool false : Value) from hv 2 (by decide))
    have q3 := (show vs 3 = (.bool false : Value) from hv 3 (by decide))
    have q4 := (show vs 4 = (.pointer (some ⟨b7, 4, none⟩) : Value) from hv 4 (by decide))
    have q5 := (show vs 5 = (.int .i64 x.width : Value) from hv 5 (by decide))
    have q6 := (show vs 6 = (.bool false : Value) from hv 6 (by decide))
    have q7 := (show vs 7 = (.bool false : Value) from hv 7 (by decide))
    have q8 := (show vs 8 = (.bool false : Value) from hv 8 (by decide))
    have q9 := (show vs 9 = (.int .i64 ↑j : Value) from hv 9 (by decide))
    have q10 := (show vs 10 = (.pointer (some ⟨b7, 4, none⟩) : Value) from hv 10 (by decide))
    have q11 := (show vs 11 = (.int .i64 x.width : Value) from hv 11 (by decide))
    have q12 := (show vs 12 = (.int .i64 (↑j + x.width) : Value) from hv 12 (by decide))
    have q13 := (show vs 13 = (.pointer (some ⟨p, 0, none⟩) : Value) from hv 13 (by decide))
    have q14 := (show vs 14 = (.pointer (some ⟨p, 0, none⟩) : Value) from hv 14 (by decide))
    have q15 := (show vs 15 = (.pointer (some ⟨p, 0, none⟩) : Value) from hv 15 (by decide))
    have q16 := (show vs 16 = (.int .i64 ↑cols : Value) from hv 16 (by decide))
    have q17 := (show vs 17 = (.bool true : Value) from hv 17 (by decide))
    have q18 := (show vs 18 = (.bool true : Value) from hv 18 (by decide))
    have S2 := Lib.hid hS
    simp only [putL, Act.put, Nat.zero_add, Nat.reduceAdd, List.setIfInBounds_toArray, List.set_cons_succ, List.set_cons_zero, q0, q1, q2, q3, q4, q5, q6, q7, q8, q9, q10, q11, q12, q13, q14, q15, q16, q17, q18]
    clear hS hv q0 q1 q2 q3 q4 q5 q6 q7 q8 q9 q10 q11 q12 q13 q14 q15 q16 q17 q18
    go_wp2_with fail
    go_ret
    exact ⟨rfl, S2.out.tail⟩
set_option maxRecDepth 100000 in
set_option maxHeartbeats 4000000 in
theorem Put_yes {i j : Nat} {l : Ln} (x : Cell) (hT : Tabs w0) (hS : Objs w0 w (.grid p 35 cols L :: os)) (hc : 0 < cols) (hcm : cols ≤ 1000) (hl : L[i]? = some l) (hrow : l.1.length = cols) (hv : x.ok = true) (hw : ¬ x.width = 0) (hfit : (j : Int) + x.width ≤ cols) :
    Calls Tryd.prog 43 #[.pointer (some ⟨p, 0, none⟩), .int .i64 i, .int .i64 j, .agg (cv x)] w fun e w' => e = .returned (.int .i64 0) ∧ Objs w0 w' (.grid p 35 cols (L.set i (putC j x l.1, l.2)) :: os) := by
  have S := Lib.hid hS
  have hi : i < L.length := (List.getElem?_eq_some_iff.1 hl).1
  have hxw : 1 ≤ x.width ∧ x.width ≤ 2 := by rcases ok_w12 hv hw with h | h <;> omega
  have hj : j < cols := by omega
  have HL := Lib.hid hl
  have HT := Lib.hid hT
  have HE := Lib.hid (show atE i j cols L = 0 by unfold atE; rw [if_pos ⟨⟨by omega, by omega⟩, by omega, by omega⟩])
  have HV := Lib.hid hv
  have hw0 := beq_no hw
  have hsum : IntKind.i64.wrap ((j : Int) + x.width) = j + x.width := IntWalk.i64_in _ (by omega)
  have hov : ¬ ((cols : Int) < j + x.width) := by omega
  have HROW := Lib.hid hrow
  have hlr : l.1.length ≤ 1000 := by omega
  have hjr : j < l.1.length := by omega
  clear hS hT hl hv hw hrow
  go_enter Tryd.func43, Tryd.ntmps43
  go_wp2_with fail
  refine (at_any _ _ S.out.alloc1 (k := 1) rfl hc).mono ?_
  rw [HE.out]
  rintro e w1 ⟨rfl, hS⟩
  have S1 := Lib.hid hS
  clear hS S
  generalize w.heap.size = b7 at S1 ⊢
  go_upto_region 4 with (fail)
  refine wp_region_stage (w0 := w0) (os := os) (by kernel_rfl) (by kernel_rfl) (by kernel_rfl) [] [[0], [], [], [], [], [0], [], [], [], [], [], [0], [], [], [], [], [1], [], []] [.box b7 65 (cv x), .grid p 35 cols L] (fun i u => match i with | 0 => u = (.agg (cv x) : Value) | 1 => u = (.bool true : Value) | 2 => u = (.bool false : Value) | 3 => u = (.bool false : Value) | 4 => u = (.pointer (some ⟨b7, 4, none⟩) : Value) | 5 => u = (.int .i64 x.width : Value) | 6 => u = (.bool false : Value) | 7 => u = (.bool false : Value) | 8 => u = (.bool false : Value) | 9 => u = (.int .i64 ↑j : Value) | 10 => u = (.pointer (some ⟨b7, 4, none⟩) : Value) | 11 => u = (.int .i64 x.width : Value) | 12 => u = (.int .i64 (↑j + x.width) : Value) | 13 => u = (.pointer (some ⟨p, 0, none⟩) : Value) | 14 => u = (.pointer (some ⟨p, 0, none⟩) : Value) | 15 => u = (.pointer (some ⟨p, 0, none⟩) : Value) | 16 => u = (.int .i64 ↑cols : Value) | 17 => u = (.bool false : Value) | 18 => u = (.bool false : Value) | _ => True) (fun vs => [.box b7 65 (cv x), .grid p 35 cols L]) (by kernel_rfl) (fun vs => by rfl) S1.out ?_ ?_
  · refine SSteps.cons (fun a w' vs σ hS hl hs hk => ?_) ?_
    · have e7 : a.tmps.getD 7 undef = (.pointer (some ⟨b7, 0, none⟩) : Value) := (sk_old hk 7 (by kernel_rfl)).trans rfl
      have f7 := gd e7
      have hx := (hS.box (sg (hs 0 (by decide)))).box.2.2.2.1
      exact ro_pure (v := .agg (cv x)) (wanted_none rfl) (by simp [execOp, Act.eval, e7, f7, go_sem, hx]) (sp_same (by kernel_rfl) hl hs hS (show (.agg (cv x) : Value) = _ from rfl)) trivial
    refine SSteps.cons (fun a w' vs σ hS hl hs hk => ?_) ?_
    · have e18 : a.tmps.getD 18 undef = (.agg (cv x) : Value) := (sk_val hk 0 (by kernel_rfl) rfl rfl).trans ((hk.1 0 (by kernel_rfl)).1)
      have f18 := gd e18
      exact ro_call (f := 28) (wanted_none rfl) rfl (by simp only [List.map_toArray, List.map_cons, List.map_nil, Act.eval, e18] <;> rfl) (fun _ _ => by kernel_rfl) ((valid_yes HV.out w' (hS.tabs HT.out)).mono fun e w2 ⟨h1, h2⟩ => ⟨_, h1, sp_same (by kernel_rfl) hl hs (hS.bel h2) rfl, trivial⟩)
    refine SSteps.cons (fun a w' vs σ hS hl hs hk => ?_) ?_
    · have e19 : a.tmps.getD 19 undef = (.bool true : Value) := (sk_val hk 1 (by kernel_rfl) rfl rfl).trans ((hk.1 1 (by kernel_rfl)).1)
      have f19 := gd e19
      exact ro_pure (v := .bool false) (wanted_none rfl) (by simp [execOp, Act.eval, e19, f19, go_sem]) (sp_same (by kernel_rfl) hl hs hS (show (.bool false : Value) = _ from rfl)) trivial
    refine SSteps.cons (fun a w' vs σ hS hl hs hk => ?_) ?_
    · have e20 : a.tmps.getD 20 undef = (.bool false : Value) := (sk_val hk 2 (by kernel_rfl) rfl rfl).trans ((hk.1 2 (by kernel_rfl)).1)
      have f20 := gd e20
      exact ro_pure (v := .bool false) (wanted_none rfl) (by simp [execOp, Act.eval, e20, f20, go_sem]) (sp_same (by kernel_rfl) hl hs hS (show (.bool false : Value) = _ from rfl)) trivial
    refine SSteps.cons (fun a w' vs σ hS hl hs hk => ?_) ?_
    · have e7 : a.tmps.getD 7 undef = (.pointer (some ⟨b7, 0, none⟩) : Value) := (sk_old hk 7 (by kernel_rfl)).trans rfl
      have f7 := gd e7
      exact ro_pure (v := .pointer (some ⟨b7, 4, none⟩)) (wanted_yes rfl rfl rfl (show _ = _ from (sk_val hk 3 (by kernel_rfl) rfl rfl).trans ((hk.1 3 (by kernel_rfl)).1))) (by simp [execOp, Act.eval, e7, f7, go_sem]) (sp_same (by kernel_rfl) hl hs hS (show (.pointer (some ⟨b7, 4, none⟩) : Value) = _ from rfl)) trivial
    refine SSteps.cons (fun a w' vs σ hS hl hs hk => ?_) ?_
    · have e22 : a.tmps.getD 22 undef = (.pointer (some ⟨b7, 4, none⟩) : Value) := (sk_val hk 4 (by kernel_rfl) rfl rfl).trans ((hk.1 4 (by kernel_rfl)).1)
      have f22 := gd e22
      have hx := (hS.box (sg (hs 0 (by decide)))).box.1
      exact ro_pure (v := .int .i64 x.width) (wanted_yes rfl rfl rfl (show _ = _ from (sk_val hk 3 (by kernel_rfl) rfl rfl).trans ((hk.1 3 (by kernel_rfl)).1))) (by simp [execOp, Act.eval, e22, f22, go_sem, hx]) (sp_same (by kernel_rfl) hl hs hS (show (.int .i64 x.width : Value) = _ from rfl)) trivial
    refine SSteps.cons (fun a w' vs σ hS hl hs hk => ?_) ?_
    · have e23 : a.tmps.getD 23 undef = (.int .i64 x.width : Value) := (sk_val hk 5 (by kernel_rfl) rfl rfl).trans ((hk.1 5 (by kernel_rfl)).1)
      have f23 := gd e23
      exact ro_pure (v := .bool false) (wanted_yes rfl rfl rfl (show _ = _ from (sk_val hk 3 (by kernel_rfl) rfl rfl).trans ((hk.1 3 (by kernel_rfl)).1))) (by simp [execOp, Act.eval, e23, f23, go_sem, hw0]) (sp_same (by kernel_rfl) hl hs hS (show (.bool false : Value) = _ from rfl)) trivial
    refine SSteps.cons (fun a w' vs σ hS hl hs hk => ?_) ?_
    · have e21 : a.tmps.getD 21 undef = (.bool false : Value) := (sk_val hk 3 (by kernel_rfl) rfl rfl).trans ((hk.1 3 (by kernel_rfl)).1)
      have f21 := gd e21
      have e24 : a.tmps.getD 24 undef = (.bool false : Value) := (sk_val hk 6 (by kernel_rfl) rfl rfl).trans ((hk.1 6 (by kernel_rfl)).1)
      have f24 := gd e24
      exact ro_pure (v := .bool false) (wanted_none rfl) (by simp [execOp, Act.eval, e21, f21, e24, f24, go_sem]) (sp_same (by kernel_rfl) hl hs hS (show (.bool false : Value) = _ from rfl)) trivial
    refine SSteps.cons (fun a w' vs σ hS hl hs hk => ?_) ?_
    · have e25 : a.tmps.getD 25 undef = (.bool false : Value) := (sk_val hk 7 (by kernel_rfl) rfl rfl).trans ((hk.1 7 (by kernel_rfl)).1)
      have f25 := gd e25
      exact ro_pure (v := .bool false) (wanted_none rfl) (by simp [execOp, Act.eval, e25, f25, go_sem]) (sp_same (by kernel_rfl) hl hs hS (show (.bool false : Value) = _ from rfl)) trivial
    refine SSteps.cons (fun a w' vs σ hS hl hs hk => ?_) ?_
    · have e2 : a.tmps.getD 2 undef = (.int .i64 ↑j : Value) := (sk_old hk 2 (by kernel_rfl)).trans rfl
      have f2 := gd e2
      exact ro_pure (v := .int .i64 ↑j) (wanted_yes rfl rfl rfl (show _ = _ from (sk_val hk 8 (by kernel_rfl) rfl rfl).trans ((hk.1 8 (by kernel_rfl)).1))) (by simp [execOp, Act.eval, e2, f2, go_sem]) (sp_same (by kernel_rfl) hl hs hS (show (.int .i64 ↑j : Value) = _ from rfl)) trivial
    refine SSteps.cons (fun a w' vs σ hS hl hs hk => ?_) ?_
    · have e7 : a.tmps.getD 7 undef = (.pointer (some ⟨b7, 0, none⟩) : Value) := (sk_old hk 7 (by kernel_rfl)).trans rfl
      have f7 := gd e7
      exact ro_pure (v := .pointer (some ⟨b7, 4, none⟩)) (wanted_yes rfl rfl rfl (show _ = _ from (sk_val hk 8 (by kernel_rfl) rfl rfl).trans ((hk.1 8 (by kernel_rfl)).1))) (by simp [execOp, Act.eval, e7, f7, go_sem]) (sp_same (by kernel_rfl) hl hs hS (show (.pointer (some ⟨b7, 4, none⟩) : Value) = _ from rfl)) trivial
    refine SSteps.cons (fun a w' vs σ hS hl hs hk => ?_) ?_
    · have e28 : a.tmps.getD 28 undef = (.pointer (some ⟨b7, 4, none⟩) : Value) := (sk_val hk 10 (by kernel_rfl) rfl rfl).trans ((hk.1 10 (by kernel_rfl)).1)
      have f28 := gd e28
      have hx := (hS.box (sg (hs 0 (by decide)))).box.1
      exact ro_pure (v := .int .i64 x.width) (wanted_yes rfl rfl rfl (show _ = _ from (sk_val hk 8 (by kernel_rfl) rfl rfl).trans ((hk.1 8 (by kernel_rfl)).1))) (by simp [execOp, Act.eval, e28, f28, go_sem, hx]) (sp_same (by kernel_rfl) hl hs hS (show (.int .i64 x.width : Value) = _ from rfl)) trivial
    refine SSteps.cons (fun a w' vs σ hS hl hs hk => ?_) ?_
    · have e27 : a.tmps.getD 27 undef = (.int .i64 ↑j : Value) := (sk_val hk 9 (by kernel_rfl) rfl rfl).trans ((hk.1 9 (by kernel_rfl)).1)
      have f27 := gd e27
      have e29 : a.tmps.getD 29 undef = (.int .i64 x.width : Value) := (sk_val hk 11 (by kernel_rfl) rfl rfl).trans ((hk.1 11 (by kernel_rfl)).1)
      have f29 := gd e29
      exact ro_pure (v := .int .i64 (↑j + x.width)) (wanted_yes rfl rfl rfl (show _ = _ from (sk_val hk 8 (by kernel_rfl) rfl rfl).trans ((hk.1 8 (by kernel_rfl)).1))) (by simp [execOp, Act.eval, e27, f27, e29, f29, go_sem, hsum]) (sp_same (by kernel_rfl) hl hs hS (show (.int .i64 (↑j + x.width) : Value) = _ from rfl)) trivial
    refine SSteps.cons (fun a w' vs σ hS hl hs hk => ?_) ?_
    · have e0 : a.tmps.getD 0 undef = (.pointer (some ⟨p, 0, none⟩) : Value) := (sk_old hk 0 (by kernel_rfl)).trans rfl
      have f0 := gd e0
      exact ro_pure (v := .pointer (some ⟨p, 0, none⟩)) (wanted_yes rfl rfl rfl (show _ = _ from (sk_val hk 8 (by kernel_rfl) rfl rfl).trans ((hk.1 8 (by kernel_rfl)).1))) (by simp [execOp, Act.eval, e0, f0, go_sem]) (sp_same (by kernel_rfl) hl hs hS (show (.pointer (some ⟨p, 0, none⟩) : Value) = _ from rfl)) trivial
    refine SSteps.cons (fun a w' vs σ hS hl hs hk => ?_) ?_
    · have e31 : a.tmps.getD 31 undef = (.pointer (some ⟨p, 0, none⟩) : Value) := (sk_val hk 13 (by kernel_rfl) rfl rfl).trans ((hk.1 13 (by kernel_rfl)).1)
      have f31 := gd e31
      exact ro_pure (v := .pointer (some ⟨p, 0, none⟩)) (wanted_yes rfl rfl rfl (show _ = _ from (sk_val hk 8 (by kernel_rfl) rfl rfl).trans ((hk.1 8 (by kernel_rfl)).1))) (by simp [execOp, Act.eval, e31, f31, go_sem]) (sp_same (by kernel_rfl) hl hs hS (show (.pointer (some ⟨p, 0, none⟩) : Value) = _ from rfl)) trivial
    refine SSteps.cons (fun a w' vs σ hS hl hs hk => ?_) ?_
    · have e32 : a.tmps.getD 32 undef = (.pointer (some ⟨p, 0, none⟩) : Value) := (sk_val hk 14 (by kernel_rfl) rfl rfl).trans ((hk.1 14 (by kernel_rfl)).1)
      have f32 := gd e32
      exact ro_pure (v := .pointer (some ⟨p, 0, none⟩)) (wanted_yes rfl rfl rfl (show _ = _ from (sk_val hk 8 (by kernel_rfl) rfl rfl).trans ((hk.1 8 (by kernel_rfl)).1))) (by simp [execOp, Act.eval, e32, f32, go_sem]) (sp_same (by kernel_rfl) hl hs hS (show (.pointer (some ⟨p, 0, none⟩) : Value) = _ from rfl)) trivial
    refine SSteps.cons (fun a w' vs σ hS hl hs hk => ?_) ?_
    · have e33 : a.tmps.getD 33 undef = (.pointer (some ⟨p, 0, none⟩) : Value) := (sk_val hk 15 (by kernel_rfl) rfl rfl).trans ((hk.1 15 (by kernel_rfl)).1)
      have f33 := gd e33
      obtain ⟨A1, c1, hB1, -, -⟩ := hS.gridRd (sg (hs 1 (by decide)))
      have hx := hB1.cell
      exact ro_pure (v := .int .i64 ↑cols) (wanted_yes rfl rfl rfl (show _ = _ from (sk_val hk 8 (by kernel_rfl) rfl rfl).trans ((hk.1 8 (by kernel_rfl)).1))) (by simp [execOp, Act.eval, e33, f33, go_sem, hx]) (sp_same (by kernel_rfl) hl hs hS (show (.int .i64 ↑cols : Value) = _ from rfl)) trivial
    refine SSteps.cons (fun a w' vs σ hS hl hs hk => ?_) ?_
    · have e30 : a.tmps.getD 30 undef = (.int .i64 (↑j + x.width) : Value) := (sk_val hk 12 (by kernel_rfl) rfl rfl).trans ((hk.1 12 (by kernel_rfl)).1)
      have f30 := gd e30
      have e34 : a.tmps.getD 34 undef = (.int .i64 ↑cols : Value) := (sk_val hk 16 (by kernel_rfl) rfl rfl).trans ((hk.1 16 (by kernel_rfl)).1)
      have f34 := gd e34
      exact ro_pure (v := .bool false) (wanted_yes rfl rfl rfl (show _ = _ from (sk_val hk 8 (by kernel_rfl) rfl rfl).trans ((hk.1 8 (by kernel_rfl)).1))) (by simp [execOp, Act.eval, e30, f30, e34, f34, go_sem, hov]) (sp_same (by kernel_rfl) hl hs hS (show (.bool false : Value) = _ from rfl)) trivial
    refine SSteps.cons (fun a w' vs σ hS hl hs hk => ?_) ?_
    · have e26 : a.tmps.getD 26 undef = (.bool false : Value) := (sk_val hk 8 (by kernel_rfl) rfl rfl).trans ((hk.1 8 (by kernel_rfl)).1)
      have f26 := gd e26
      have e35 : a.tmps.getD 35 undef = (.bool false : Value) := (sk_val hk 17 (by kernel_rfl) rfl rfl).trans ((hk.1 17 (by kernel_rfl)).1)
      have f35 := gd e35
      exact ro_pure (v := .bool false) (wanted_none rfl) (by simp [execOp, Act.eval, e26, f26, e35, f35, go_sem]) (sp_same (by kernel_rfl) hl hs hS (show (.bool false : Value) = _ from rfl)) trivial
    exact SSteps.nil
  · intro vs w' hS hv
    have q0 := (show vs 0 = (.agg (cv x) : Value) from hv 0 (by decide))
    have q1 := (show vs 1 = (.bool true : Value) from hv 1 (by decide))
    have q2 := (show vs 2 = (.bool false : Value) from hv 2 (by decide))
    have q3 := (show vs 3 = (.bool false : Value) from hv 3 (by decide))
    have q4 := (show vs 4 = (.pointer (some ⟨b7, 4, none⟩) : Value) from hv 4 (by decide))
    have q5 := (show vs 5 = (.int .i64 x.width : Value) from hv 5 (by decide))
    have q6 := (show vs 6 = (.bool false : Value) from hv 6 (by decide))
    have q7 := (show vs 7 = (.bool false : Value) from hv 7 (by decide))
    have q8 := (show vs 8 = (.bool false : Value) from hv 8 (by decide))
    have q9 := (show vs 9 = (.int .i64 ↑j : Value) from hv 9 (by decide))
    have q10 := (show vs 10 = (.pointer (some ⟨b7, 4, none⟩) : Value) from hv 10 (by decide))
    have q11 := (show vs 11 = (.int .i64 x.width : Value) from hv 11 (by decide))
    have q12 := (show vs 12 = (.int .i64 (↑j + x.width) : Value) from hv 12 (by decide))
    have q13 := (show vs 13 = (.pointer (some ⟨p, 0, none⟩) : Value) from hv 13 (by decide))
    have q14 := (show vs 14 = (.pointer (some ⟨p, 0, none⟩) : Value) from hv 14 (by decide))
    have q15 := (show vs 15 = (.pointer (some ⟨p, 0, none⟩) : Value) from hv 15 (by decide))
    have q16 := (show vs 16 = (.int .i64 ↑cols : Value) from hv 16 (by decide))
    have q17 := (show vs 17 = (.bool false : Value) from hv 17 (by decide))
    have q18 := (show vs 18 = (.bool false : Value) from hv 18 (by decide))
    have S2 := Lib.hid hS
    simp only [putL, Act.put, Nat.zero_add, Nat.reduceAdd, List.setIfInBounds_toArray, List.set_cons_succ, List.set_cons_zero, q0, q1, q2, q3, q4, q5, q6, q7, q8, q9, q10, q11, q12, q13, q14, q15, q16, q17, q18]
    clear hS hv q0 q1 q2 q3 q4 q5 q6 q7 q8 q9 q10 q11 q12 q13 q14 q15 q16 q17 q18
    clear hsum hw0 hov
    obtain ⟨v, b, hS3⟩ := S2.out.swap.openAt HL.out
    obtain ⟨A, c, rfl, -⟩ := hS3.cellsRd (k := 0) rfl
    obtain ⟨g, rfl, -, -, -, -⟩ := (hS3.own (k := 0) rfl).head (by omega)
    obtain ⟨gr, cr, rfl, h1, h2, h3, h4, h5, h6, h7⟩ := hS3.linesxRd (k := 1) rfl
    obtain ⟨hx2, hf2, hz2⟩ := (hS3.box (k := 2) rfl).facts
    have hlen2 : L.length ≤ 9223372036854775807 := by unfold maxLen at h2; omega
    have S3 := Lib.hid hS3
    clear hS3 h1 h2 h6
    go_wp2_with fail
    refine (split_at S3.out rfl rfl (by omega) (by omega)).mono ?_
    rintro e w4 ⟨rfl, hS4⟩
    have S4 := Lib.hid hS4
    obtain ⟨hx7, hf7, hz7, hc7, hp7⟩ := (hS4.box (k := 3) rfl).box
    clear hS4 hx2 hf2 hz2 h4 h5 h7
    go_wp2_with fail
    refine (split_at (c := j + x.width.toNat) S4.out (by rw [brk_length]) (by omega) (by rw [brk_length]; omega) (by omega)).mono ?_
    rintro e w5 ⟨rfl, hS5⟩
    obtain ⟨W, hst, ho, hg⟩ := (hS5.own (k := 0) rfl).putAt (k := j) (by rw [brk_length, brk_length]; omega) x
    have hS6 := hS5.cellsUpd (k := 0) rfl ho hg
    clear hx7 hf7 hz7 hc7 hp7
    obtain ⟨hx5, hf5, hz5, hc5, hp5⟩ := (hS5.box (k := 3) rfl).box
    obtain ⟨hx7, hf7, hz7, hc7, hp7⟩ := (hS6.box (k := 3) rfl).box
    have S6 := Lib.hid hS6
    clear hS5 hS6 ho hg
    by_cases hw2 : x.width = 2
    · have hw2' := beq_yes hw2
      have HP := Lib.hid (show putC j x l.1 = (((brk (j + x.width.toNat) (brk j l.1)).set j x).set (j + 1) (spacer x.pen)) from if_pos hw2)
      have HW2 := Lib.hid hw2
      clear hw2
      have hj2 : j + 1 < l.1.length := by have := HW2.out; have := HROW.out; omega
      go_wp2_with fail
      refine (pure_call (cellSpacer_any _ _) S6.out).mono ?_
      rintro e w7 ⟨rfl, hS7⟩
      obtain ⟨W2, hst2, ho2, hg2⟩ := (hS7.own (k := 0) rfl).putAt (k := j + 1) (by rw [List.length_set, brk_length, brk_length]; have := HW2.out; have := HROW.out; omega) (spacer x.pen)
      have S8 := Lib.hid (hS7.cellsUpd (k := 0) rfl ho2 hg2)
      clear ho2 hg2
      clear hS7
      have HF := S8.out.closeAt HL.out
      rw [← HP.out] at HF
      go_wp2_with fail
      go_ret
      exact ⟨rfl, HF.drop2⟩
    · have hw2' := beq_no hw2
      have HP := Lib.hid (show putC j x l.1 = ((brk (j + x.width.toNat) (brk j l.1)).set j x) by unfold putC; rw [if_neg hw2])
      clear hw2
      have HF := S6.out.closeAt HL.out
      rw [← HP.out] at HF
      go_wp2_with fail
      go_ret
      exact ⟨rfl, HF.drop2⟩
set_option maxRecDepth 100000 in
set_option maxHeartbeats 4000000 in
theorem r14Put_any {i j : Nat} {l : Ln} (x : Cell) (hS : Objs w0 w (.grid p 48 cols L :: os)) (hc : 0 < cols) (hcm : cols ≤ 1000) (hl : L[i]? = some l) (hrow : l.1.length = cols) (hv : x.ok = true) (hw : ¬ x.width = 0) (hfit : (j : Int) + x.width ≤ cols) :
    Calls Tryd.prog 59 #[.pointer (some ⟨p, 0, none⟩), .int .i64 i, .int .i64 j, .agg (cv x)] w fun e w' => e = .returned (.tuple #[]) ∧ Objs w0 w' (.grid p 48 cols (L.set i (putC j x l.1, l.2)) :: os) := by
  have S := Lib.hid hS
  have hi : i < L.length := (List.getElem?_eq_some_iff.1 hl).1
  have hxw : 1 ≤ x.width ∧ x.width ≤ 2 := by rcases ok_w12 hv hw with h | h <;> omega
  have hj : j < cols := by omega
  have HL := Lib.hid hl
  have HROW := Lib.hid hrow
  have hlr : l.1.length ≤ 1000 := by omega
  have hjr : j < l.1.length := by omega
  clear hS hl hv hw hrow
  go_enter Tryd.func59, Tryd.ntmps59
  have S2 := Lib.hid (S.out.alloc1 (c1 := cv x) (t1 := 65))
  obtain ⟨v, b, hS3⟩ := S2.out.swap.openAt HL.out
  obtain ⟨A, c, rfl, -⟩ := hS3.cellsRd (k := 0) rfl
  obtain ⟨g, rfl, -, -, -, -⟩ := (hS3.own (k := 0) rfl).head (by omega)
  obtain ⟨gr, cr, rfl, h1, h2, h3, h4, h5, h6, h7⟩ := hS3.linesxRd (k := 1) rfl
  obtain ⟨hx2, hf2, hz2⟩ := (hS3.box (k := 2) rfl).facts
  have hlen2 : L.length ≤ 9223372036854775807 := by unfold maxLen at h2; omega
  have S3 := Lib.hid hS3
  clear hS3 h1 h2 h6
  go_wp2_with fail
  refine (break_at S3.out rfl rfl (by omega) (by omega)).mono ?_
  rintro e w4 ⟨rfl, hS4⟩
  have S4 := Lib.hid hS4
  obtain ⟨hx7, hf7, hz7, hc7, hp7⟩ := (hS4.box (k := 3) rfl).box
  clear hS4 hx2 hf2 hz2 h4 h5 h7
  go_wp2_with fail
  refine (break_at (c := j + x.width.toNat) S4.out (by rw [brk_length]) (by omega) (by rw [brk_length]; omega) (by omega)).mono ?_
  rintro e w5 ⟨rfl, hS5⟩
  obtain ⟨W, hst, ho, hg⟩ := (hS5.own (k := 0) rfl).putAt (k := j) (by rw [brk_length, brk_length]; omega) x
  have hS6 := hS5.cellsUpd (k := 0) rfl ho hg
  clear hx7 hf7 hz7 hc7 hp7
  obtain ⟨hx5, hf5, hz5, hc5, hp5⟩ := (hS5.box (k := 3) rfl).box
  obtain ⟨hx7, hf7, hz7, hc7, hp7⟩ := (hS6.box (k := 3) rfl).box
  have S6 := Lib.hid hS6
  clear hS5 hS6 ho hg
  by_cases hw2 : x.width = 2
  · have hw2' := beq_yes hw2
    have HP := Lib.hid (show putC j x l.1 = (((brk (j + x.width.toNat) (brk j l.1)).set j x).set (j + 1) (⟨0, 0, 0, 0, 0, x.pen⟩ : Cell)) from if_pos hw2)
    have HW2 := Lib.hid hw2
    clear hw2
    have hj2 : j + 1 < l.1.length := by have := HW2.out; have := HROW.out; omega
    obtain ⟨W2, hst2, ho2, hg2⟩ := (S6.out.own (k := 0) rfl).putAt (k := j + 1) (by rw [List.length_set, brk_length, brk_length]; have := HW2.out; have := HROW.out; omega) (⟨0, 0, 0, 0, 0, x.pen⟩ : Cell)
    have S8 := Lib.hid (S6.out.cellsUpd (k := 0) rfl ho2 hg2)
    clear ho2 hg2
    have HF := S8.out.closeAt HL.out
    rw [← HP.out] at HF
    go_wp2_with fail
    go_end0
    exact ⟨rfl, HF.drop2⟩
  · have hw2' := beq_no hw2
    have HP := Lib.hid (show putC j x l.1 = ((brk (j + x.width.toNat) (brk j l.1)).set j x) by unfold putC; rw [if_neg hw2])
    clear hw2
    have HF := S6.out.closeAt HL.out
    rw [← HP.out] at HF
    go_wp2_with fail
    go_end0
    exact ⟨rfl, HF.drop2⟩
end
end Go.Proofs.YtjligfbaljnhnaaDoor

/-
  Clear and Shift of the program's grid.
-/
set_option linter.unusedSimpArgs false
set_option linter.unusedVariables false
namespace Go.Proofs.YtjligfbaljnhnaaDoor
open Go.RowKit

def clearC (f t : Nat) (q : Pen) (cs : List Cell) : List Cell := if f < t then wipeC f (t - f) q (brk t (brk f cs)) else cs
theorem clearC_length {f t : Nat} {q : Pen} {cs : List Cell} (h : t ≤ cs.length) : (clearC f t q cs).length = cs.length := by
  unfold clearC
  split
  · rw [wipeC_length (by rw [brk_length, brk_length]; omega), brk_length, brk_length]
  · rfl
/-- Cells moved to the right, to the left, by k. -/
def shiftR (j k : Nat) (q : Pen) (cs : List Cell) : List Cell := let l := brk (cs.length - k) (brk j cs); l.take j ++ (List.replicate k (blank q) ++ (l.drop j).take (cs.length - k - j))
def shiftL (j k : Nat) (q : Pen) (cs : List Cell) : List Cell := let l := brk (j + k) (brk j cs); l.take j ++ (l.drop (j + k) ++ List.replicate k (blank q))
theorem shiftR_length {j k : Nat} {q : Pen} {cs : List Cell} (h : j + k ≤ cs.length) : (shiftR j k q cs).length = cs.length := by
  simp only [shiftR, List.length_append, List.length_take, List.length_drop, List.length_replicate, brk_length]; omega
theorem shiftL_length {j k : Nat} {q : Pen} {cs : List Cell} (h : j + k ≤ cs.length) : (shiftL j k q cs).length = cs.length := by
  simp only [shiftL, List.length_append, List.length_take, List.length_drop, List.length_replicate, brk_length]; omega
def shiftC (j : Nat) (n : Int) (q : Pen) (cs : List Cell) : List Cell :=
  if n = 0 then cs else if 0 < n then shiftR j (min n.toNat (cs.length - j)) q cs else shiftL j (min (-n).toNat (cs.length - j)) q cs
theorem shiftC_length {j : Nat} {n : Int} {q : Pen} {cs : List Cell} (h : j ≤ cs.length) : (shiftC j n q cs).length = cs.length := by
  unfold shiftC
  split
  · rfl
  · split
    · exact shiftR_length (by omega)
    · exact shiftL_length (by omega)
/-- What the program's moves make: to the right. -/
theorem shiftR_is {j k : Nat} {q : Pen} {l : List Cell} (h : j + k ≤ l.length) :
    wipeC j k q (l.take (j + k) ++ ((l.drop j).take (l.length - k - j) ++ l.drop (j + k + (l.length - k - j)))) = l.take j ++ (List.replicate k (blank q) ++ (l.drop j).take (l.length - k - j)) := by
  unfold wipeC
  have e1 : l.drop (j + k + (l.length - k - j)) = [] := List.drop_eq_nil_of_le (by omega)
  rw [e1, List.append_nil]
  have hlen : (l.take (j + k)).length = j + k := by simp; omega
  rw [List.take_append_of_le_length (by omega), List.take_take, Nat.min_eq_left (by omega), List.drop_left' hlen]
  simp
theorem shiftL_is {j k : Nat} {q : Pen} {l : List Cell} (h : j + k ≤ l.length) :
    wipeC (l.length - k) k q (l.take j ++ ((l.drop (j + k)).take (l.length - (j + k)) ++ l.drop (j + (l.length - (j + k))))) = l.take j ++ (l.drop (j + k) ++ List.replicate k (blank q)) := by
  unfold wipeC
  have e1 : (l.drop (j + k)).take (l.length - (j + k)) = l.drop (j + k) := List.take_of_length_le (by simp)
  rw [e1]
  have hlen : (l.take j ++ l.drop (j + k)).length = l.length - k := by simp; omega
  rw [List.drop_eq_nil_of_le (i := l.length - k + k) (by simp only [List.length_append, List.length_take, List.length_drop]; omega), ← List.append_assoc, List.take_left' hlen, List.append_nil, List.append_assoc]
section
variable {w0 w : World} {os : List Ob} {p cols : Nat} {L : List Ln}
set_option maxRecDepth 100000 in
set_option maxHeartbeats 4000000 in
theorem Clear_yes {i f t : Nat} {l : Ln} (q : Pen) (hT : Tabs w0) (hS : Objs w0 w (.grid p 35 cols L :: os)) (hc : 0 < cols) (hcm : cols ≤ 1000) (hl : L[i]? = some l) (hrow : l.1.length = cols) (hq : q.ok = true) (hft : f < t) (ht : t ≤ cols) :
    Calls Tryd.prog 48 #[.pointer (some ⟨p, 0, none⟩), .int .i64 i, .int .i64 f, .int .i64 t, .agg (pv q)] w fun e w' => e = .returned (.int .i64 0) ∧ Objs w0 w' (.grid p 35 cols (L.set i (clearC f t q l.1, l.2)) :: os) := by
  have S := Lib.hid hS
  have hi : i < L.length := (List.getElem?_eq_some_iff.1 hl).1
  have HL := Lib.hid hl
  have HT := Lib.hid hT
  have HQ := Lib.hid hq
  have HROW := Lib.hid hrow
  have hlr : l.1.length ≤ 1000 := by omega
  have hlr2 : cols ≤ l.1.length := by omega
  have hlr3 : l.1.length ≤ cols := by omega
  have HE := Lib.hid (show thereE i L = 0 by unfold thereE; rw [if_pos ⟨by omega, by omega⟩])
  have HP := Lib.hid (show clearC f t q l.1 = wipeC f (t - f) q (brk t (brk f l.1)) from if_pos hft)
  clear hS hT hl hrow hq
  go_enter Tryd.func48, Tryd.ntmps48
  go_wp2_with fail
  refine (there_any i S.out.alloc1 (k := 1) rfl hc).mono ?_
  rw [HE.out]
  rintro e w1 ⟨rfl, hS⟩
  have S1 := Lib.hid hS
  obtain ⟨A0, c0, hB0, -, -⟩ := hS.gridRd (k := 1) rfl
  obtain ⟨hx0, hf0, hz0⟩ := hB0.facts
  obtain ⟨hx9, hf9, hz9, hp9⟩ := (hS.box (k := 0) rfl).pbox
  clear hS S hB0
  generalize w.heap.size = b9 at S1 hx9 hf9 hz9 hp9 ⊢
  go_wp2_with fail
  refine (inked_is HQ.out HT.out S1.out).mono ?_
  rintro e w2 ⟨rfl, hS⟩
  have S2 := Lib.hid hS
  clear hS hx0 hf0 hz0 hx9 hf9 hz9 hp9
  obtain ⟨v, b, hS3⟩ := S2.out.swap.openAt HL.out
  obtain ⟨A, c, rfl, hrd⟩ := hS3.cellsRd (k := 0) rfl
  have hnc : l.1.length ≤ c := hrd.1
  obtain ⟨g, rfl, -, -, -, -⟩ := (hS3.own (k := 0) rfl).head (by omega)
  obtain ⟨gr, cr, rfl, h1, h2, h3, h4, h5, h6, h7⟩ := hS3.linesxRd (k := 1) rfl
  obtain ⟨hx2, hf2, hz2⟩ := (hS3.box (k := 2) rfl).facts
  have hlen2 : L.length ≤ 9223372036854775807 := by unfold maxLen at h2; omega
  have S3 := Lib.hid hS3
  clear hS3 h1 h2 h6 hrd
  go_wp2_with fail
  refine (split_at (c := f) S3.out rfl rfl (by omega) (by omega)).mono ?_
  rintro e w4 ⟨rfl, hS4⟩
  have S4 := Lib.hid hS4
  clear hS4 hx2 hf2 hz2 h4 h5 h7
  go_wp2_with fail
  refine (split_at (c := t) S4.out (by rw [brk_length]) rfl (by rw [brk_length]; omega) (by omega)).mono ?_
  rintro e w5 ⟨rfl, hS5⟩
  have S5 := Lib.hid hS5
  clear hS5
  go_upto_region 13 with (fail)
  refine wp_region_stage (w0 := w0) (os := os) (by kernel_rfl) (by kernel_rfl) (by kernel_rfl) [(0, 5, [], fun vs => .cells (.slice (some ⟨g, 0, none⟩) l.1.length c) (wipeC f (t - f) q (brk t (brk f l.1))))] [[], [], [], [], [3], [0]] [.cells (.slice (some ⟨g, 0, none⟩) l.1.length c) (brk t (brk f l.1)), .linesx (.slice (some ⟨gr, 0, none⟩) L.length cr) L i (.slice (some ⟨g, 0, none⟩) l.1.length c), .box p 35 #[.int .i64 ↑cols, .slice (some ⟨gr, 0, none⟩) L.length cr], .box b9 29 (pv q)] (fun i u => match i with | 0 => u = (.slice (some ⟨g, 0, none⟩) l.1.length c : Value) | 1 => u = (.int .i64 ↑f : Value) | 2 => u = (.int .i64 ↑t : Value) | 3 => u = (.slice (some ⟨g, f * 16, none⟩) (t - f) (c - f) : Value) | 4 => u = (.agg (pv q) : Value) | 5 => u = (.tuple #[] : Value) | _ => True) (fun vs => [.cells (.slice (some ⟨g, 0, none⟩) l.1.length c) (wipeC f (t - f) q (brk t (brk f l.1))), .linesx (.slice (some ⟨gr, 0, none⟩) L.length cr) L i (.slice (some ⟨g, 0, none⟩) l.1.length c), .box p 35 #[.int .i64 ↑cols, .slice (some ⟨gr, 0, none⟩) L.length cr], .box b9 29 (pv q)]) (by kernel_rfl) (fun vs => by rfl) S5.out ?_ ?_
  · refine SSteps.cons (fun a w' vs σ hS hl hs hk => ?_) ?_
    · have e12 : a.tmps.getD 12 undef = (.slice (some ⟨g, 0, none⟩) l.1.length c : Value) := (sk_old hk 12 (by kernel_rfl)).trans rfl
      have f12 := gd e12
      exact ro_pure (v := .slice (some ⟨g, 0, none⟩) l.1.length c) (wanted_none rfl) (by simp [execOp, Act.eval, e12, f12, go_sem]) (sp_same (by kernel_rfl) hl hs hS (show (.slice (some ⟨g, 0, none⟩) l.1.length c : Value) = _ from rfl)) trivial
    refine SSteps.cons (fun a w' vs σ hS hl hs hk => ?_) ?_
    · have e2 : a.tmps.getD 2 undef = (.int .i64 ↑f : Value) := (sk_old hk 2 (by kernel_rfl)).trans rfl
      have f2 := gd e2
      exact ro_pure (v := .int .i64 ↑f) (wanted_none rfl) (by simp [execOp, Act.eval, e2, f2, go_sem]) (sp_same (by kernel_rfl) hl hs hS (show (.int .i64 ↑f : Value) = _ from rfl)) trivial
    refine SSteps.cons (fun a w' vs σ hS hl hs hk => ?_) ?_
    · have e3 : a.tmps.getD 3 undef = (.int .i64 ↑t : Value) := (sk_old hk 3 (by kernel_rfl)).trans rfl
      have f3 := gd e3
      exact ro_pure (v := .int .i64 ↑t) (wanted_none rfl) (by simp [execOp, Act.eval, e3, f3, go_sem]) (sp_same (by kernel_rfl) hl hs hS (show (.int .i64 ↑t : Value) = _ from rfl)) trivial
    refine SSteps.cons (fun a w' vs σ hS hl hs hk => ?_) ?_
    · have e58 : a.tmps.getD 58 undef = (.slice (some ⟨g, 0, none⟩) l.1.length c : Value) := (sk_val hk 0 (by kernel_rfl) rfl rfl).trans ((hk.1 0 (by kernel_rfl)).1)
      have f58 := gd e58
      have e59 : a.tmps.getD 59 undef = (.int .i64 ↑f : Value) := (sk_val hk 1 (by kernel_rfl) rfl rfl).trans ((hk.1 1 (by kernel_rfl)).1)
      have f59 := gd e59
      have e60 : a.tmps.getD 60 undef = (.int .i64 ↑t : Value) := (sk_val hk 2 (by kernel_rfl) rfl rfl).trans ((hk.1 2 (by kernel_rfl)).1)
      have f60 := gd e60
      exact rs_run (wanted_none rfl) (exec_slice rfl (by simp [Act.eval, e58, f58, e59, f59, e60, f60]) (by simp [Act.eval, e58, f58, e59, f59, e60, f60]; try rfl) (by simp [Act.eval, e58, f58, e59, f59, e60, f60]; try rfl) (run_mid w' g l.1.length c f t (by omega) (by omega) (by omega) (by omega) (by omega))) (sp_same (by kernel_rfl) hl hs hS (show (.slice (some ⟨g, f * 16, none⟩) (t - f) (c - f) : Value) = _ from rfl))
    refine SSteps.cons (fun a w' vs σ hS hl hs hk => ?_) ?_
    · have e9 : a.tmps.getD 9 undef = (.pointer (some ⟨b9, 0, none⟩) : Value) := (sk_old hk 9 (by kernel_rfl)).trans rfl
      have f9 := gd e9
      have hx := (hS.box (sg (hs 3 (by decide)))).penAt
      exact ro_pure (v := .agg (pv q)) (wanted_none rfl) (by simp [execOp, Act.eval, e9, f9, go_sem, hx]) (sp_same (by kernel_rfl) hl hs hS (show (.agg (pv q) : Value) = _ from rfl)) trivial
    refine SSteps.cons (fun a w' vs σ hS hl hs hk => ?_) ?_
    · have e61 : a.tmps.getD 61 undef = (.slice (some ⟨g, f * 16, none⟩) (t - f) (c - f) : Value) := (sk_val hk 3 (by kernel_rfl) rfl rfl).trans ((hk.1 3 (by kernel_rfl)).1)
      have f61 := gd e61
      have e62 : a.tmps.getD 62 undef = (.agg (pv q) : Value) := (sk_val hk 4 (by kernel_rfl) rfl rfl).trans ((hk.1 4 (by kernel_rfl)).1)
      have f62 := gd e62
      have h0 : σ[0]? = some (.cells (.slice (some ⟨g, 0, none⟩) l.1.length c) (brk t (brk f l.1))) := hs 0 (by decide)
      exact ro_call (f := 84) (wanted_none rfl) rfl (by simp only [List.map_toArray, List.map_cons, List.map_nil, Act.eval, e61, e62] <;> rfl) (fun _ _ => by kernel_rfl) ((front_call hS (sg h0) (fun os1 h => wipe_front g l.1.length c (f) (t - f) (c - f) (brk t (brk f l.1)) q w0 w' os1 h (by rw [brk_length, brk_length]; omega) (by omega) (by rw [brk_length, brk_length]; omega))).mono fun e w2 ⟨h1, h2⟩ => ⟨_, h1, sp_set 0 _ (by kernel_rfl) (by simp) (by decide) hl hs (by rfl) h2 rfl, trivial⟩)
    exact SSteps.nil
  · intro vs w' hS hv
    have q0 := (show vs 0 = (.slice (some ⟨g, 0, none⟩) l.1.length c : Value) from hv 0 (by decide))
    have q1 := (show vs 1 = (.int .i64 ↑f : Value) from hv 1 (by decide))
    have q2 := (show vs 2 = (.int .i64 ↑t : Value) from hv 2 (by decide))
    have q3 := (show vs 3 = (.slice (some ⟨g, f * 16, none⟩) (t - f) (c - f) : Value) from hv 3 (by decide))
    have q4 := (show vs 4 = (.agg (pv q) : Value) from hv 4 (by decide))
    have q5 := (show vs 5 = (.tuple #[] : Value) from hv 5 (by decide))
    have S2 := Lib.hid hS
    simp only [putL, Act.put, Nat.zero_add, Nat.reduceAdd, List.setIfInBounds_toArray, List.set_cons_succ, List.set_cons_zero, q0, q1, q2, q3, q4, q5]
    clear hS hv q0 q1 q2 q3 q4 q5
    have HF := (show Objs w0 w' (_ :: _ :: _ :: _ :: os) from S2.out).closeAt HL.out
    rw [← HP.out] at HF
    go_wp2_with fail
    go_ret
    exact ⟨rfl, HF.drop2⟩
set_option maxRecDepth 100000 in
set_option maxHeartbeats 1000000 in
theorem Clear_out {row f t : Int} (q : Pen) (hT : Tabs w0) (hS : Objs w0 w (.grid p 35 cols L :: os)) (hc : 0 < cols) (hcm : cols ≤ 1000) (hno : ¬ (0 ≤ row ∧ row < L.length)) :
    Calls Tryd.prog 48 #[.pointer (some ⟨p, 0, none⟩), .int .i64 row, .int .i64 f, .int .i64 t, .agg (pv q)] w fun e w' => e = .returned (.int .i64 3) ∧ Objs w0 w' (.grid p 35 cols L :: os) := by
  have S := Lib.hid hS
  have HT := Lib.hid hT
  have HE := Lib.hid (show thereE row L = 3 by unfold thereE; rw [if_neg hno])
  clear hno
  clear hS hT
  go_enter Tryd.func48, Tryd.ntmps48
  go_wp2_with fail
  refine (there_any row S.out.alloc1 (k := 1) rfl hc).mono ?_
  rw [HE.out]
  rintro e w1 ⟨rfl, hS⟩
  have S1 := Lib.hid hS
  obtain ⟨A0, c0, hB0, -, -⟩ := hS.gridRd (k := 1) rfl
  obtain ⟨hx0, hf0, hz0⟩ := hB0.facts
  obtain ⟨hx9, hf9, hz9, hp9⟩ := (hS.box (k := 0) rfl).pbox
  clear hS S hB0
  generalize w.heap.size = b9 at S1 hx9 hf9 hz9 hp9 ⊢
  go_wp2_with fail
  go_ret
  exact ⟨rfl, S1.out.tail⟩
set_option maxRecDepth 100000 in
set_option maxHeartbeats 1000000 in
theorem Clear_range_a {row f t : Int} (q : Pen) (hT : Tabs w0) (hS : Objs w0 w (.grid p 35 cols L :: os)) (hc : 0 < cols) (hcm : cols ≤ 1000) (hin : 0 ≤ row ∧ row < L.length) (hft : f < 0) :
    Calls Tryd.prog 48 #[.pointer (some ⟨p, 0, none⟩), .int .i64 row, .int .i64 f, .int .i64 t, .agg (pv q)] w fun e w' => e = .returned (.int .i64 3) ∧ Objs w0 w' (.grid p 35 cols L :: os) := by
  have S := Lib.hid hS
  have HT := Lib.hid hT
  have HE := Lib.hid (show thereE row L = 0 by unfold thereE; rw [if_pos hin])
  clear hin
  clear hS hT
  go_enter Tryd.func48, Tryd.ntmps48
  go_wp2_with fail
  refine (there_any row S.out.alloc1 (k := 1) rfl hc).mono ?_
  rw [HE.out]
  rintro e w1 ⟨rfl, hS⟩
  have S1 := Lib.hid hS
  obtain ⟨A0, c0, hB0, -, -⟩ := hS.gridRd (k := 1) rfl
  obtain ⟨hx0, hf0, hz0⟩ := hB0.facts
  obtain ⟨hx9, hf9, hz9, hp9⟩ := (hS.box (k := 0) rfl).pbox
  clear hS S hB0
  generalize w.heap.size = b9 at S1 hx9 hf9 hz9 hp9 ⊢
  go_wp2_with fail
  go_ret
  exact ⟨rfl, S1.out.tail⟩
set_option maxRecDepth 100000 in
set_option maxHeartbeats 1000000 in
theorem Clear_range_b {row f t : Int} (q : Pen) (hT : Tabs w0) (hS : Objs w0 w (.grid p 35 cols L :: os)) (hc : 0 < cols) (hcm : cols ≤ 1000) (hin : 0 ≤ row ∧ row < L.length) (hft : 0 ≤ f ∧ t < f) :
    Calls Tryd.prog 48 #[.pointer (some ⟨p, 0, none⟩), .int .i64 row, .int .i64 f, .int .i64 t, .agg (pv q)] w fun e w' => e = .returned (.int .i64 3) ∧ Objs w0 w' (.grid p 35 cols L :: os) := by
  have S := Lib.hid hS
  have HT := Lib.hid hT
  have HE := Lib.hid (show thereE row L = 0 by unfold thereE; rw [if_pos hin])
  clear hin
  clear hS hT
  go_enter Tryd.func48, Tryd.ntmps48
  go_wp2_with fail
  refine (there_any row S.out.alloc1 (k := 1) rfl hc).mono ?_
  rw [HE.out]
  rintro e w1 ⟨rfl, hS⟩
  have S1 := Lib.hid hS
  obtain ⟨A0, c0, hB0, -, -⟩ := hS.gridRd (k := 1) rfl
  obtain ⟨hx0, hf0, hz0⟩ := hB0.facts
  obtain ⟨hx9, hf9, hz9, hp9⟩ := (hS.box (k := 0) rfl).pbox
  clear hS S hB0
  generalize w.heap.size = b9 at S1 hx9 hf9 hz9 hp9 ⊢
  go_wp2_with fail
  go_ret
  exact ⟨rfl, S1.out.tail⟩
set_option maxRecDepth 100000 in
set_option maxHeartbeats 1000000 in
theorem Clear_range_c {row f t : Int} (q : Pen) (hT : Tabs w0) (hS : Objs w0 w (.grid p 35 cols L :: os)) (hc : 0 < cols) (hcm : cols ≤ 1000) (hin : 0 ≤ row ∧ row < L.length) (hft : 0 ≤ f ∧ f ≤ t ∧ (cols : Int) < t) :
    Calls Tryd.prog 48 #[.pointer (some ⟨p, 0, none⟩), .int .i64 row, .int .i64 f, .int .i64 t, .agg (pv q)] w fun e w' => e = .returned (.int .i64 3) ∧ Objs w0 w' (.grid p 35 cols L :: os) := by
  have S := Lib.hid hS
  have HT := Lib.hid hT
  have HE := Lib.hid (show thereE row L = 0 by unfold thereE; rw [if_pos hin])
  clear hin
  clear hS hT
  go_enter Tryd.func48, Tryd.ntmps48
  go_wp2_with fail
  refine (there_any row S.out.alloc1 (k := 1) rfl hc).mono ?_
  rw [HE.out]
  rintro e w1 ⟨rfl, hS⟩
  have S1 := Lib.hid hS
  obtain ⟨A0, c0, hB0, -, -⟩ := hS.gridRd (k := 1) rfl
  obtain ⟨hx0, hf0, hz0⟩ := hB0.facts
  obtain ⟨hx9, hf9, hz9, hp9⟩ := (hS.box (k := 0) rfl).pbox
  clear hS S hB0
  generalize w.heap.size = b9 at S1 hx9 hf9 hz9 hp9 ⊢
  go_wp2_with fail
  go_ret
  exact ⟨rfl, S1.out.tail⟩
set_option maxRecDepth 100000 in
set_option maxHeartbeats 1000000 in
theorem Clear_pen {row f t : Int} (q : Pen) (hT : Tabs w0) (hS : Objs w0 w (.grid p 35 cols L :: os)) (hc : 0 < cols) (hcm : cols ≤ 1000) (hin : 0 ≤ row ∧ row < L.length) (hft : 0 ≤ f ∧ f ≤ t ∧ t ≤ cols) (hq : q.ok = false) :
    Calls Tryd.prog 48 #[.pointer (some ⟨p, 0, none⟩), .int .i64 row, .int .i64 f, .int .i64 t, .agg (pv q)] w fun e w' => e = .returned (.int .i64 2) ∧ Objs w0 w' (.grid p 35 cols L :: os) := by
  have S := Lib.hid hS
  have HT := Lib.hid hT
  have HE := Lib.hid (show thereE row L = 0 by unfold thereE; rw [if_pos hin])
  clear hin
  have HQ := Lib.hid hq
  clear hq
  clear hS hT
  go_enter Tryd.func48, Tryd.ntmps48
  go_wp2_with fail
  refine (there_any row S.out.alloc1 (k := 1) rfl hc).mono ?_
  rw [HE.out]
  rintro e w1 ⟨rfl, hS⟩
  have S1 := Lib.hid hS
  obtain ⟨A0, c0, hB0, -, -⟩ := hS.gridRd (k := 1) rfl
  obtain ⟨hx0, hf0, hz0⟩ := hB0.facts
  obtain ⟨hx9, hf9, hz9, hp9⟩ := (hS.box (k := 0) rfl).pbox
  clear hS S hB0
  generalize w.heap.size = b9 at S1 hx9 hf9 hz9 hp9 ⊢
  go_wp2_with fail
  refine (inked_is HQ.out HT.out S1.out).mono ?_
  rintro e w2 ⟨rfl, hS⟩
  have S2 := Lib.hid hS
  clear hS
  go_wp2_with fail
  go_ret
  exact ⟨rfl, S2.out.tail⟩
set_option maxRecDepth 100000 in
set_option maxHeartbeats 1000000 in
theorem Clear_none {row f t : Int} (q : Pen) (hT : Tabs w0) (hS : Objs w0 w (.grid p 35 cols L :: os)) (hc : 0 < cols) (hcm : cols ≤ 1000) (hin : 0 ≤ row ∧ row < L.length) (hft : 0 ≤ f ∧ f = t ∧ t ≤ cols) (hq : q.ok = true) :
    Calls Tryd.prog 48 #[.pointer (some ⟨p, 0, none⟩), .int .i64 row, .int .i64 f, .int .i64 t, .agg (pv q)] w fun e w' => e = .returned (.int .i64 0) ∧ Objs w0 w' (.grid p 35 cols L :: os) := by
  have S := Lib.hid hS
  have HT := Lib.hid hT
  have HE := Lib.hid (show thereE row L = 0 by unfold thereE; rw [if_pos hin])
  clear hin
  have HQ := Lib.hid hq
  obtain ⟨hf, rfl, hft⟩ := hft
  clear hq
  clear hS hT
  go_enter Tryd.func48, Tryd.ntmps48
  go_wp2_with fail
  refine (there_any row S.out.alloc1 (k := 1) rfl hc).mono ?_
  rw [HE.out]
  rintro e w1 ⟨rfl, hS⟩
  have S1 := Lib.hid hS
  obtain ⟨A0, c0, hB0, -, -⟩ := hS.gridRd (k := 1) rfl
  obtain ⟨hx0, hf0, hz0⟩ := hB0.facts
  obtain ⟨hx9, hf9, hz9, hp9⟩ := (hS.box (k := 0) rfl).pbox
  clear hS S hB0
  generalize w.heap.size = b9 at S1 hx9 hf9 hz9 hp9 ⊢
  go_wp2_with fail
  refine (inked_is HQ.out HT.out S1.out).mono ?_
  rintro e w2 ⟨rfl, hS⟩
  have S2 := Lib.hid hS
  clear hS
  go_wp2_with fail
  go_ret
  exact ⟨rfl, S2.out.tail⟩
set_option maxRecDepth 100000 in
set_option maxHeartbeats 4000000 in
theorem Shift_right {i j k : Nat} {l : Ln} (q : Pen) (hT : Tabs w0) (hS : Objs w0 w (.grid p 35 cols L :: os)) (hc : 0 < cols) (hcm : cols ≤ 1000) (hl : L[i]? = some l) (hrow : l.1.length = cols) (hq : q.ok = true) (n : Int) (hj : j < cols) (hn : 0 < n) (hn2 : n ≤ 9223372036854775807) (hk : (k : Int) = min n ((cols - j : Nat) : Int)) :
    Calls Tryd.prog 49 #[.pointer (some ⟨p, 0, none⟩), .int .i64 i, .int .i64 j, .int .i64 n, .agg (pv q)] w fun e w' => e = .returned (.int .i64 0) ∧ Objs w0 w' (.grid p 35 cols (L.set i (shiftR j k q l.1, l.2)) :: os) := by
  have S := Lib.hid hS
  have hi : i < L.length := (List.getElem?_eq_some_iff.1 hl).1
  have HL := Lib.hid hl
  have HT := Lib.hid hT
  have HQ := Lib.hid hq
  have HROW := Lib.hid hrow
  have hlr : l.1.length ≤ 1000 := by omega
  have hlr2 : cols ≤ l.1.length := by omega
  have hlr3 : l.1.length ≤ cols := by omega
  have HE := Lib.hid (show atE i j cols L = 0 by unfold atE; rw [if_pos ⟨⟨by omega, by omega⟩, by omega, by omega⟩])
  have hkj : j + k ≤ cols := by omega
  have hk1 : 1 ≤ k := by omega
  have hn0 : (n == 0) = false := by simp; omega
  have HP := Lib.hid (show wipeC j (j + k - j) q ((brk (cols - k) (brk j l.1)).take (j + k) ++ (((brk (cols - k) (brk j l.1)).drop j).take (cols - k - j) ++ (brk (cols - k) (brk j l.1)).drop (j + k + (cols - k - j)))) = shiftR j k q l.1 by
    have hb : (brk (cols - k) (brk j l.1)).length = cols := by rw [brk_length, brk_length, hrow]
    have h := shiftR_is (j := j) (k := k) (q := q) (l := brk (cols - k) (brk j l.1)) (by omega)
    rw [hb] at h
    rw [show j + k - j = k by omega, h]
    unfold shiftR
    rw [hrow])
  have hmin : min n ((cols : Int) - j) = (k : Int) := by omega
  clear hS hT hl hrow hq hk
  go_enter Tryd.func49, Tryd.ntmps49
  go_wp2_with fail
  refine (at_any i j S.out.alloc1 (k := 1) rfl hc).mono ?_
  rw [HE.out]
  rintro e w1 ⟨rfl, hS⟩
  have S1 := Lib.hid hS
  obtain ⟨A0, c0, hB0, -, -⟩ := hS.gridRd (k := 1) rfl
  obtain ⟨hx0, hf0, hz0⟩ := hB0.facts
  obtain ⟨hx9, hf9, hz9, hp9⟩ := (hS.box (k := 0) rfl).pbox
  clear hS S hB0
  generalize w.heap.size = b9 at S1 hx9 hf9 hz9 hp9 ⊢
  go_wp2_with fail
  refine (inked_is HQ.out HT.out S1.out).mono ?_
  rintro e w2 ⟨rfl, hS⟩
  have S2 := Lib.hid hS
  clear hS hx0 hf0 hz0 hx9 hf9 hz9 hp9
  obtain ⟨v, b, hS3⟩ := S2.out.swap.openAt HL.out
  obtain ⟨A, c, rfl, hrd⟩ := hS3.cellsRd (k := 0) rfl
  have hnc : l.1.length ≤ c := hrd.1
  obtain ⟨g, rfl, -, -, -, -⟩ := (hS3.own (k := 0) rfl).head (by omega)
  obtain ⟨gr, cr, rfl, h1, h2, h3, h4, h5, h6, h7⟩ := hS3.linesxRd (k := 1) rfl
  obtain ⟨hx2, hf2, hz2⟩ := (hS3.box (k := 2) rfl).facts
  have hlen2 : L.length ≤ 9223372036854775807 := by unfold maxLen at h2; omega
  have S3 := Lib.hid hS3
  clear hS3 h1 h2 h6 hrd
  go_wp2_with fail
  refine (split_at (c := j) S3.out rfl rfl (by omega) (by omega)).mono ?_
  rintro e w4 ⟨rfl, hS4⟩
  have S4 := Lib.hid hS4
  obtain ⟨hx2, hf2, hz2⟩ := (hS4.box (k := 2) rfl).facts
  clear hS4 h4 h5 h7
  go_wp2_with fail
  refine (split_at (n := (cols : Int) - k) (c := cols - k) S4.out (by rw [brk_length]) (by omega) (by rw [brk_length]; omega) (by omega)).mono ?_
  rintro e w5 ⟨rfl, hS5⟩
  have S5 := Lib.hid hS5
  have HW1 := Lib.hid (show IntKind.i64.wrap ((j : Int) + k) = ((j + k : Nat) : Int) by rw [IntWalk.i64_in _ (by omega)]; omega)
  have HW2 := Lib.hid (show IntKind.i64.wrap ((cols : Int) - k) = ((cols - k : Nat) : Int) by rw [IntWalk.i64_in _ (by omega)]; omega)
  clear hmin hn0
  clear hS5 hx2 hf2 hz2
  go_upto_region 14 with (fail)
  refine wp_region_stage (w0 := w0) (os := os) (by kernel_rfl) (by kernel_rfl) (by kernel_rfl) [(0, 14, [], fun vs => .cells (.slice (some ⟨g, 0, none⟩) l.1.length c) ((brk (cols - k) (brk j l.1)).take (j + k) ++ (((brk (cols - k) (brk j l.1)).drop j).take (cols - k - j) ++ (brk (cols - k) (brk j l.1)).drop (j + k + (cols - k - j)))))] [[], [], [], [], [], [], [], [], [], [], [2], [], [], [], [0]] [.cells (.slice (some ⟨g, 0, none⟩) l.1.length c) (brk (cols - k) (brk j l.1)), .linesx (.slice (some ⟨gr, 0, none⟩) L.length cr) L i (.slice (some ⟨g, 0, none⟩) l.1.length c), .box p 35 #[.int .i64 ↑cols, .slice (some ⟨gr, 0, none⟩) L.length cr], .box b9 29 (pv q)] (fun i u => match i with | 0 => u = (.slice (some ⟨g, 0, none⟩) l.1.length c : Value) | 1 => u = (.int .i64 ↑j : Value) | 2 => u = (.int .i64 ↑k : Value) | 3 => u = (.int .i64 ↑(j + k) : Value) | 4 => u = (.slice (tailA (some ⟨g, 0, none⟩) c (j + k)) (l.1.length - (j + k)) (c - (j + k)) : Value) | 5 => u = (.slice (some ⟨g, 0, none⟩) l.1.length c : Value) | 6 => u = (.int .i64 ↑j : Value) | 7 => u = (.pointer (some ⟨p, 0, none⟩) : Value) | 8 => u = (.pointer (some ⟨p, 0, none⟩) : Value) | 9 => u = (.pointer (some ⟨p, 0, none⟩) : Value) | 10 => u = (.int .i64 ↑cols : Value) | 11 => u = (.int .i64 ↑k : Value) | 12 => u = (.int .i64 ↑(cols - k) : Value) | 13 => u = (.slice (some ⟨g, j * 16, none⟩) (cols - k - j) (c - j) : Value) | 14 => True | _ => True) (fun vs => [.cells (.slice (some ⟨g, 0, none⟩) l.1.length c) ((brk (cols - k) (brk j l.1)).take (j + k) ++ (((brk (cols - k) (brk j l.1)).drop j).take (cols - k - j) ++ (brk (cols - k) (brk j l.1)).drop (j + k + (cols - k - j)))), .linesx (.slice (some ⟨gr, 0, none⟩) L.length cr) L i (.slice (some ⟨g, 0, none⟩) l.1.length c), .box p 35 #[.int .i64 ↑cols, .slice (some ⟨gr, 0, none⟩) L.length cr], .box b9 29 (pv q)]) (by kernel_rfl) (fun vs => by rfl) S5.out ?_ ?_
  · refine SSteps.cons (fun a w' vs σ hS hl hs hk => ?_) ?_
    · have e12 : a.tmps.getD 12 undef = (.slice (some ⟨g, 0, none⟩) l.1.length c : Value) := (sk_old hk 12 (by kernel_rfl)).trans rfl
      have f12 := gd e12
      exact ro_pure (v := .slice (some ⟨g, 0, none⟩) l.1.length c) (wanted_none rfl) (by simp [execOp, Act.eval, e12, f12, go_sem]) (sp_same (by kernel_rfl) hl hs hS (show (.slice (some ⟨g, 0, none⟩) l.1.length c : Value) = _ from rfl)) trivial
    refine SSteps.cons (fun a w' vs σ hS hl hs hk => ?_) ?_
    · have e2 : a.tmps.getD 2 undef = (.int .i64 ↑j : Value) := (sk_old hk 2 (by kernel_rfl)).trans rfl
      have f2 := gd e2
      exact ro_pure (v := .int .i64 ↑j) (wanted_none rfl) (by simp [execOp, Act.eval, e2, f2, go_sem]) (sp_same (by kernel_rfl) hl hs hS (show (.int .i64 ↑j : Value) = _ from rfl)) trivial
    refine SSteps.cons (fun a w' vs σ hS hl hs hk => ?_) ?_
    · have e14 : a.tmps.getD 14 undef = (.int .i64 ↑k : Value) := (sk_old hk 14 (by kernel_rfl)).trans rfl
      have f14 := gd e14
      exact ro_pure (v := .int .i64 ↑k) (wanted_none rfl) (by simp [execOp, Act.eval, e14, f14, go_sem]) (sp_same (by kernel_rfl) hl hs hS (show (.int .i64 ↑k : Value) = _ from rfl)) trivial
    refine SSteps.cons (fun a w' vs σ hS hl hs hk => ?_) ?_
    · have e62 : a.tmps.getD 62 undef = (.int .i64 ↑j : Value) := (sk_val hk 1 (by kernel_rfl) rfl rfl).trans ((hk.1 1 (by kernel_rfl)).1)
      have f62 := gd e62
      have e63 : a.tmps.getD 63 undef = (.int .i64 ↑k : Value) := (sk_val hk 2 (by kernel_rfl) rfl rfl).trans ((hk.1 2 (by kernel_rfl)).1)
      have f63 := gd e63
      exact ro_pure (v := .int .i64 ↑(j + k)) (wanted_none rfl) (by simp [execOp, Act.eval, e62, f62, e63, f63, go_sem, HW1.out]) (sp_same (by kernel_rfl) hl hs hS (show (.int .i64 ↑(j + k) : Value) = _ from rfl)) trivial
    refine SSteps.cons (fun a w' vs σ hS hl hs hk => ?_) ?_
    · have e61 : a.tmps.getD 61 undef = (.slice (some ⟨g, 0, none⟩) l.1.length c : Value) := (sk_val hk 0 (by kernel_rfl) rfl rfl).trans ((hk.1 0 (by kernel_rfl)).1)
      have f61 := gd e61
      have e64 : a.tmps.getD 64 undef = (.int .i64 ↑(j + k) : Value) := (sk_val hk 3 (by kernel_rfl) rfl rfl).trans ((hk.1 3 (by kernel_rfl)).1)
      have f64 := gd e64
      exact rs_run (wanted_none rfl) (exec_slice rfl (by simp [Act.eval, e61, f61, e64, f64]) (by simp [Act.eval, e61, f61, e64, f64]; try rfl) (by simp [Act.eval, e61, f61, e64, f64]; try rfl) (run_from w' (some ⟨g, 0, none⟩) l.1.length c (j + k) (by omega) (by omega) (fun h => by cases h) (by omega))) (sp_same (by kernel_rfl) hl hs hS (show (.slice (tailA (some ⟨g, 0, none⟩) c (j + k)) (l.1.length - (j + k)) (c - (j + k)) : Value) = _ from rfl))
    refine SSteps.cons (fun a w' vs σ hS hl hs hk => ?_) ?_
    · have e12 : a.tmps.getD 12 undef = (.slice (some ⟨g, 0, none⟩) l.1.length c : Value) := (sk_old hk 12 (by kernel_rfl)).trans rfl
      have f12 := gd e12
      exact ro_pure (v := .slice (some ⟨g, 0, none⟩) l.1.length c) (wanted_none rfl) (by simp [execOp, Act.eval, e12, f12, go_sem]) (sp_same (by kernel_rfl) hl hs hS (show (.slice (some ⟨g, 0, none⟩) l.1.length c : Value) = _ from rfl)) trivial
    refine SSteps.cons (fun a w' vs σ hS hl hs hk => ?_) ?_
    · have e2 : a.tmps.getD 2 undef = (.int .i64 ↑j : Value) := (sk_old hk 2 (by kernel_rfl)).trans rfl
      have f2 := gd e2
      exact ro_pure (v := .int .i64 ↑j) (wanted_none rfl) (by simp [execOp, Act.eval, e2, f2, go_sem]) (sp_same (by kernel_rfl) hl hs hS (show (.int .i64 ↑j : Value) = _ from rfl)) trivial
    refine SSteps.cons (fun a w' vs σ hS hl hs hk => ?_) ?_
    · have e0 : a.tmps.getD 0 undef = (.pointer (some ⟨p, 0, none⟩) : Value) := (sk_old hk 0 (by kernel_rfl)).trans rfl
      have f0 := gd e0
      exact ro_pure (v := .pointer (some ⟨p, 0, none⟩)) (wanted_none rfl) (by simp [execOp, Act.eval, e0, f0, go_sem]) (sp_same (by kernel_rfl) hl hs hS (show (.pointer (some ⟨p, 0, none⟩) : Value) = _ from rfl)) trivial
    refine SSteps.cons (fun a w' vs σ hS hl hs hk => ?_) ?_
    · have e68 : a.tmps.getD 68 undef = (.pointer (some ⟨p, 0, none⟩) : Value) := (sk_val hk 7 (by kernel_rfl) rfl rfl).trans ((hk.1 7 (by kernel_rfl)).1)
      have f68 := gd e68
      exact ro_pure (v := .pointer (some ⟨p, 0, none⟩)) (wanted_none rfl) (by simp [execOp, Act.eval, e68, f68, go_sem]) (sp_same (by kernel_rfl) hl hs hS (show (.pointer (some ⟨p, 0, none⟩) : Value) = _ from rfl)) trivial
    refine SSteps.cons (fun a w' vs σ hS hl hs hk => ?_) ?_
    · have e69 : a.tmps.getD 69 undef = (.pointer (some ⟨p, 0, none⟩) : Value) := (sk_val hk 8 (by kernel_rfl) rfl rfl).trans ((hk.1 8 (by kernel_rfl)).1)
      have f69 := gd e69
      exact ro_pure (v := .pointer (some ⟨p, 0, none⟩)) (wanted_none rfl) (by simp [execOp, Act.eval, e69, f69, go_sem]) (sp_same (by kernel_rfl) hl hs hS (show (.pointer (some ⟨p, 0, none⟩) : Value) = _ from rfl)) trivial
    refine SSteps.cons (fun a w' vs σ hS hl hs hk => ?_) ?_
    · have e70 : a.tmps.getD 70 undef = (.pointer (some ⟨p, 0, none⟩) : Value) := (sk_val hk 9 (by kernel_rfl) rfl rfl).trans ((hk.1 9 (by kernel_rfl)).1)
      have f70 := gd e70
      have hx := (hS.box (sg (hs 2 (by decide)))).cell
      exact ro_pure (v := .int .i64 ↑cols) (wanted_none rfl) (by simp [execOp, Act.eval, e70, f70, go_sem, hx]) (sp_same (by kernel_rfl) hl hs hS (show (.int .i64 ↑cols : Value) = _ from rfl)) trivial
    refine SSteps.cons (fun a w' vs σ hS hl hs hk => ?_) ?_
    · have e14 : a.tmps.getD 14 undef = (.int .i64 ↑k : Value) := (sk_old hk 14 (by kernel_rfl)).trans rfl
      have f14 := gd e14
      exact ro_pure (v := .int .i64 ↑k) (wanted_none rfl) (by simp [execOp, Act.eval, e14, f14, go_sem]) (sp_same (by kernel_rfl) hl hs hS (show (.int .i64 ↑k : Value) = _ from rfl)) trivial
    refine SSteps.cons (fun a w' vs σ hS hl hs hk => ?_) ?_
    · have e71 : a.tmps.getD 71 undef = (.int .i64 ↑cols : Value) := (sk_val hk 10 (by kernel_rfl) rfl rfl).trans ((hk.1 10 (by kernel_rfl)).1)
      have f71 := gd e71
      have e72 : a.tmps.getD 72 undef = (.int .i64 ↑k : Value) := (sk_val hk 11 (by kernel_rfl) rfl rfl).trans ((hk.1 11 (by kernel_rfl)).1)
      have f72 := gd e72
      exact ro_pure (v := .int .i64 ↑(cols - k)) (wanted_none rfl) (by simp [execOp, Act.eval, e71, f71, e72, f72, go_sem, HW2.out]) (sp_same (by kernel_rfl) hl hs hS (show (.int .i64 ↑(cols - k) : Value) = _ from rfl)) trivial
    refine SSteps.cons (fun a w' vs σ hS hl hs hk => ?_) ?_
    · have e66 : a.tmps.getD 66 undef = (.slice (some ⟨g, 0, none⟩) l.1.length c : Value) := (sk_val hk 5 (by kernel_rfl) rfl rfl).trans ((hk.1 5 (by kernel_rfl)).1)
      have f66 := gd e66
      have e67 : a.tmps.getD 67 undef = (.int .i64 ↑j : Value) := (sk_val hk 6 (by kernel_rfl) rfl rfl).trans ((hk.1 6 (by kernel_rfl)).1)
      have f67 := gd e67
      have e73 : a.tmps.getD 73 undef = (.int .i64 ↑(cols - k) : Value) := (sk_val hk 12 (by kernel_rfl) rfl rfl).trans ((hk.1 12 (by kernel_rfl)).1)
      have f73 := gd e73
      exact rs_run (wanted_none rfl) (exec_slice rfl (by simp [Act.eval, e66, f66, e67, f67, e73, f73]) (by simp [Act.eval, e66, f66, e67, f67, e73, f73]; try rfl) (by simp [Act.eval, e66, f66, e67, f67, e73, f73]; try rfl) (run_mid w' g l.1.length c j (cols - k) (by omega) (by omega) (by omega) (by omega) (by omega))) (sp_same (by kernel_rfl) hl hs hS (show (.slice (some ⟨g, j * 16, none⟩) (cols - k - j) (c - j) : Value) = _ from rfl))
    refine SSteps.cons (fun a w' vs σ hS hl hs hk => ?_) ?_
    · have e65 : a.tmps.getD 65 undef = (.slice (tailA (some ⟨g, 0, none⟩) c (j + k)) (l.1.length - (j + k)) (c - (j + k)) : Value) := (sk_val hk 4 (by kernel_rfl) rfl rfl).trans ((hk.1 4 (by kernel_rfl)).1)
      have f65 := gd e65
      have e74 : a.tmps.getD 74 undef = (.slice (some ⟨g, j * 16, none⟩) (cols - k - j) (c - j) : Value) := (sk_val hk 13 (by kernel_rfl) rfl rfl).trans ((hk.1 13 (by kernel_rfl)).1)
      have f74 := gd e74
      have h0 : σ[0]? = some (.cells (.slice (some ⟨g, 0, none⟩) l.1.length c) (brk (cols - k) (brk j l.1))) := hs 0 (by decide)
      obtain ⟨W, hr, hW⟩ := run_copyO hS (sg h0) (j + k) (j) (cols - k - j) (tailA (some ⟨g, 0, none⟩) c (j + k)) (some ⟨g, j * 16, none⟩) (l.1.length - (j + k)) (c - (j + k)) (cols - k - j) (c - j) (by show min (cols - k - j) (l.1.length - (j + k)) = _; omega) (by rw [brk_length, brk_length]; omega) (by rw [brk_length, brk_length]; omega) (fun hp => ⟨tailA_at (by omega), rfl⟩) 3
      exact rs_run (wanted_none rfl) (exec_copy rfl (by simp only [Act.eval]; exact e65) (by simp only [Act.eval]; exact e74) hr) (sp_set 0 _ (by kernel_rfl) (by simp) (by decide) hl hs (by rfl) hW trivial)
    exact SSteps.nil
  · intro vs w' hS hv
    have q0 := (show vs 0 = (.slice (some ⟨g, 0, none⟩) l.1.length c : Value) from hv 0 (by decide))
    have q1 := (show vs 1 = (.int .i64 ↑j : Value) from hv 1 (by decide))
    have q2 := (show vs 2 = (.int .i64 ↑k : Value) from hv 2 (by decide))
    have q3 := (show vs 3 = (.int .i64 ↑(j + k) : Value) from hv 3 (by decide))
    have q4 := (show vs 4 = (.slice (tailA (some ⟨g, 0, none⟩) c (j + k)) (l.1.length - (j + k)) (c - (j + k)) : Value) from hv 4 (by decide))
    have q5 := (show vs 5 = (.slice (some ⟨g, 0, none⟩) l.1.length c : Value) from hv 5 (by decide))
    have q6 := (show vs 6 = (.int .i64 ↑j : Value) from hv 6 (by decide))
    have q7 := (show vs 7 = (.pointer (some ⟨p, 0, none⟩) : Value) from hv 7 (by decide))
    have q8 := (show vs 8 = (.pointer (some ⟨p, 0, none⟩) : Value) from hv 8 (by decide))
    have q9 := (show vs 9 = (.pointer (some ⟨p, 0, none⟩) : Value) from hv 9 (by decide))
    have q10 := (show vs 10 = (.int .i64 ↑cols : Value) from hv 10 (by decide))
    have q11 := (show vs 11 = (.int .i64 ↑k : Value) from hv 11 (by decide))
    have q12 := (show vs 12 = (.int .i64 ↑(cols - k) : Value) from hv 12 (by decide))
    have q13 := (show vs 13 = (.slice (some ⟨g, j * 16, none⟩) (cols - k - j) (c - j) : Value) from hv 13 (by decide))
    have S2 := Lib.hid hS
    simp only [putL, Act.put, Nat.zero_add, Nat.reduceAdd, List.setIfInBounds_toArray, List.set_cons_succ, List.set_cons_zero, q0, q1, q2, q3, q4, q5, q6, q7, q8, q9, q10, q11, q12, q13]
    clear hS hv q0 q1 q2 q3 q4 q5 q6 q7 q8 q9 q10 q11 q12 q13
    clear S5
    have S6 := S2
    clear S2
    have HCL := Lib.hid (show ((brk (cols - k) (brk j l.1)).take (j + k) ++ (((brk (cols - k) (brk j l.1)).drop j).take (cols - k - j) ++ (brk (cols - k) (brk j l.1)).drop (j + k + (cols - k - j)))).length = cols by simp only [List.length_append, List.length_take, List.length_drop, brk_length]; omega)
    go_upto_region 15 with (fail)
    refine wp_region_stage (w0 := w0) (os := os) (by kernel_rfl) (by kernel_rfl) (by kernel_rfl) [(0, 7, [], fun vs => .cells (.slice (some ⟨g, 0, none⟩) l.1.length c) (wipeC j (j + k - j) q ((brk (cols - k) (brk j l.1)).take (j + k) ++ (((brk (cols - k) (brk j l.1)).drop j).take (cols - k - j) ++ (brk (cols - k) (brk j l.1)).drop (j + k + (cols - k - j))))))] [[], [], [], [], [], [], [3], [0]] [.cells (.slice (some ⟨g, 0, none⟩) l.1.length c) ((brk (cols - k) (brk j l.1)).take (j + k) ++ (((brk (cols - k) (brk j l.1)).drop j).take (cols - k - j) ++ (brk (cols - k) (brk j l.1)).drop (j + k + (cols - k - j)))), .linesx (.slice (some ⟨gr, 0, none⟩) L.length cr) L i (.slice (some ⟨g, 0, none⟩) l.1.length c), .box p 35 #[.int .i64 ↑cols, .slice (some ⟨gr, 0, none⟩) L.length cr], .box b9 29 (pv q)] (fun i u => match i with | 0 => u = (.slice (some ⟨g, 0, none⟩) l.1.length c : Value) | 1 => u = (.int .i64 ↑j : Value) | 2 => u = (.int .i64 ↑j : Value) | 3 => u = (.int .i64 ↑k : Value) | 4 => u = (.int .i64 ↑(j + k) : Value) | 5 => u = (.slice (some ⟨g, j * 16, none⟩) (j + k - j) (c - j) : Value) | 6 => u = (.agg (pv q) : Value) | 7 => u = (.tuple #[] : Value) | _ => True) (fun vs => [.cells (.slice (some ⟨g, 0, none⟩) l.1.length c) (wipeC j (j + k - j) q ((brk (cols - k) (brk j l.1)).take (j + k) ++ (((brk (cols - k) (brk j l.1)).drop j).take (cols - k - j) ++ (brk (cols - k) (brk j l.1)).drop (j + k + (cols - k - j))))), .linesx (.slice (some ⟨gr, 0, none⟩) L.length cr) L i (.slice (some ⟨g, 0, none⟩) l.1.length c), .box p 35 #[.int .i64 ↑cols, .slice (some ⟨gr, 0, none⟩) L.length cr], .box b9 29 (pv q)]) (by kernel_rfl) (fun vs => by rfl) S6.out ?_ ?_
    · refine SSteps.cons (fun a w' vs σ hS hl hs hk => ?_) ?_
      · have e12 : a.tmps.getD 12 undef = (.slice (some ⟨g, 0, none⟩) l.1.length c : Value) := (sk_old hk 12 (by kernel_rfl)).trans rfl
        have f12 := gd e12
        exact ro_pure (v := .slice (some ⟨g, 0, none⟩) l.1.length c) (wanted_none rfl) (by simp [execOp, Act.eval, e12, f12, go_sem]) (sp_same (by kernel_rfl) hl hs hS (show (.slice (some ⟨g, 0, none⟩) l.1.length c : Value) = _ from rfl)) trivial
      refine SSteps.cons (fun a w' vs σ hS hl hs hk => ?_) ?_
      · have e2 : a.tmps.getD 2 undef = (.int .i64 ↑j : Value) := (sk_old hk 2 (by kernel_rfl)).trans rfl
        have f2 := gd e2
        exact ro_pure (v := .int .i64 ↑j) (wanted_none rfl) (by simp [execOp, Act.eval, e2, f2, go_sem]) (sp_same (by kernel_rfl) hl hs hS (show (.int .i64 ↑j : Value) = _ from rfl)) trivial
      refine SSteps.cons (fun a w' vs σ hS hl hs hk => ?_) ?_
      · have e2 : a.tmps.getD 2 undef = (.int .i64 ↑j : Value) := (sk_old hk 2 (by kernel_rfl)).trans rfl
        have f2 := gd e2
        exact ro_pure (v := .int .i64 ↑j) (wanted_none rfl) (by simp [execOp, Act.eval, e2, f2, go_sem]) (sp_same (by kernel_rfl) hl hs hS (show (.int .i64 ↑j : Value) = _ from rfl)) trivial
      refine SSteps.cons (fun a w' vs σ hS hl hs hk => ?_) ?_
      · have e14 : a.tmps.getD 14 undef = (.int .i64 ↑k : Value) := (sk_old hk 14 (by kernel_rfl)).trans rfl
        have f14 := gd e14
        exact ro_pure (v := .int .i64 ↑k) (wanted_none rfl) (by simp [execOp, Act.eval, e14, f14, go_sem]) (sp_same (by kernel_rfl) hl hs hS (show (.int .i64 ↑k : Value) = _ from rfl)) trivial
      refine SSteps.cons (fun a w' vs σ hS hl hs hk => ?_) ?_
      · have e78 : a.tmps.getD 78 undef = (.int .i64 ↑j : Value) := (sk_val hk 2 (by kernel_rfl) rfl rfl).trans ((hk.1 2 (by kernel_rfl)).1)
        have f78 := gd e78
        have e79 : a.tmps.getD 79 undef = (.int .i64 ↑k : Value) := (sk_val hk 3 (by kernel_rfl) rfl rfl).trans ((hk.1 3 (by kernel_rfl)).1)
        have f79 := gd e79
        exact ro_pure (v := .int .i64 ↑(j + k)) (wanted_none rfl) (by simp [execOp, Act.eval, e78, f78, e79, f79, go_sem, HW1.out]) (sp_same (by kernel_rfl) hl hs hS (show (.int .i64 ↑(j + k) : Value) = _ from rfl)) trivial
      refine SSteps.cons (fun a w' vs σ hS hl hs hk => ?_) ?_
      · have e76 : a.tmps.getD 76 undef = (.slice (some ⟨g, 0, none⟩) l.1.length c : Value) := (sk_val hk 0 (by kernel_rfl) rfl rfl).trans ((hk.1 0 (by kernel_rfl)).1)
        have f76 := gd e76
        have e77 : a.tmps.getD 77 undef = (.int .i64 ↑j : Value) := (sk_val hk 1 (by kernel_rfl) rfl rfl).trans ((hk.1 1 (by kernel_rfl)).1)
        have f77 := gd e77
        have e80 : a.tmps.getD 80 undef = (.int .i64 ↑(j + k) : Value) := (sk_val hk 4 (by kernel_rfl) rfl rfl).trans ((hk.1 4 (by kernel_rfl)).1)
        have f80 := gd e80
        exact rs_run (wanted_none rfl) (exec_slice rfl (by simp [Act.eval, e76, f76, e77, f77, e80, f80]) (by simp [Act.eval, e76, f76, e77, f77, e80, f80]; try rfl) (by simp [Act.eval, e76, f76, e77, f77, e80, f80]; try rfl) (run_mid w' g l.1.length c j (j + k) (by omega) (by omega) (by omega) (by omega) (by omega))) (sp_same (by kernel_rfl) hl hs hS (show (.slice (some ⟨g, j * 16, none⟩) (j + k - j) (c - j) : Value) = _ from rfl))
      refine SSteps.cons (fun a w' vs σ hS hl hs hk => ?_) ?_
      · have e9 : a.tmps.getD 9 undef = (.pointer (some ⟨b9, 0, none⟩) : Value) := (sk_old hk 9 (by kernel_rfl)).trans rfl
        have f9 := gd e9
        have hx := (hS.box (sg (hs 3 (by decide)))).penAt
        exact ro_pure (v := .agg (pv q)) (wanted_none rfl) (by simp [execOp, Act.eval, e9, f9, go_sem, hx]) (sp_same (by kernel_rfl) hl hs hS (show (.agg (pv q) : Value) = _ from rfl)) trivial
      refine SSteps.cons (fun a w' vs σ hS hl hs hk => ?_) ?_
      · have e81 : a.tmps.getD 81 undef = (.slice (some ⟨g, j * 16, none⟩) (j + k - j) (c - j) : Value) := (sk_val hk 5 (by kernel_rfl) rfl rfl).trans ((hk.1 5 (by kernel_rfl)).1)
        have f81 := gd e81
        have e82 : a.tmps.getD 82 undef = (.agg (pv q) : Value) := (sk_val hk 6 (by kernel_rfl) rfl rfl).trans ((hk.1 6 (by kernel_rfl)).1)
        have f82 := gd e82
        have h0 : σ[0]? = some (.cells (.slice (some ⟨g, 0, none⟩) l.1.length c) ((brk (cols - k) (brk j l.1)).take (j + k) ++ (((brk (cols - k) (brk j l.1)).drop j).take (cols - k - j) ++ (brk (cols - k) (brk j l.1)).drop (j + k + (cols - k - j))))) := hs 0 (by decide)
        exact ro_call (f := 84) (wanted_none rfl) rfl (by simp only [List.map_toArray, List.map_cons, List.map_nil, Act.eval, e81, e82] <;> rfl) (fun _ _ => by kernel_rfl) ((front_call hS (sg h0) (fun os1 h => wipe_front g l.1.length c (j) (j + k - j) (c - j) ((brk (cols - k) (brk j l.1)).take (j + k) ++ (((brk (cols - k) (brk j l.1)).drop j).take (cols - k - j) ++ (brk (cols - k) (brk j l.1)).drop (j + k + (cols - k - j)))) q w0 w' os1 h (by have := HCL.out; omega) (by omega) (by have := HCL.out; omega))).mono fun e w2 ⟨h1, h2⟩ => ⟨_, h1, sp_set 0 _ (by kernel_rfl) (by simp) (by decide) hl hs (by rfl) h2 rfl, trivial⟩)
      exact SSteps.nil
    · intro vs w' hS hv
      have q0 := (show vs 0 = (.slice (some ⟨g, 0, none⟩) l.1.length c : Value) from hv 0 (by decide))
      have q1 := (show vs 1 = (.int .i64 ↑j : Value) from hv 1 (by decide))
      have q2 := (show vs 2 = (.int .i64 ↑j : Value) from hv 2 (by decide))
      have q3 := (show vs 3 = (.int .i64 ↑k : Value) from hv 3 (by decide))
      have q4 := (show vs 4 = (.int .i64 ↑(j + k) : Value) from hv 4 (by decide))
      have q5 := (show vs 5 = (.slice (some ⟨g, j * 16, none⟩) (j + k - j) (c - j) : Value) from hv 5 (by decide))
      have q6 := (show vs 6 = (.agg (pv q) : Value) from hv 6 (by decide))
      have q7 := (show vs 7 = (.tuple #[] : Value) from hv 7 (by decide))
      have S2 := Lib.hid hS
      simp only [putL, Act.put, Nat.zero_add, Nat.reduceAdd, List.setIfInBounds_toArray, List.set_cons_succ, List.set_cons_zero, q0, q1, q2, q3, q4, q5, q6, q7]
      clear hS hv q0 q1 q2 q3 q4 q5 q6 q7
      have HF := (show Objs w0 w' (_ :: _ :: _ :: _ :: os) from S2.out).closeAt HL.out
      rw [HP.out] at HF
      go_wp2_with fail
      go_ret
      exact ⟨rfl, HF.drop2⟩
set_option maxRecDepth 100000 in
set_option maxHeartbeats 1000000 in
theorem Shift_out {row col n : Int} (q : Pen) (hT : Tabs w0) (hS : Objs w0 w (.grid p 35 cols L :: os)) (hc : 0 < cols) (hcm : cols ≤ 1000) (hno : ¬ ((0 ≤ row ∧ row < L.length) ∧ 0 ≤ col ∧ col < cols)) :
    Calls Tryd.prog 49 #[.pointer (some ⟨p, 0, none⟩), .int .i64 row, .int .i64 col, .int .i64 n, .agg (pv q)] w fun e w' => e = .returned (.int .i64 3) ∧ Objs w0 w' (.grid p 35 cols L :: os) := by
  have S := Lib.hid hS
  have HT := Lib.hid hT
  have HE := Lib.hid (show atE row col cols L = 3 by unfold atE; rw [if_neg hno])
  clear hno
  clear hS hT
  go_enter Tryd.func49, Tryd.ntmps49
  go_wp2_with fail
  refine (at_any row col S.out.alloc1 (k := 1) rfl hc).mono ?_
  rw [HE.out]
  rintro e w1 ⟨rfl, hS⟩
  have S1 := Lib.hid hS
  obtain ⟨A0, c0, hB0, -, -⟩ := hS.gridRd (k := 1) rfl
  obtain ⟨hx0, hf0, hz0⟩ := hB0.facts
  obtain ⟨hx9, hf9, hz9, hp9⟩ := (hS.box (k := 0) rfl).pbox
  clear hS S hB0
  generalize w.heap.size = b9 at S1 hx9 hf9 hz9 hp9 ⊢
  go_wp2_with fail
  go_ret
  exact ⟨rfl, S1.out.tail⟩
set_option maxRecDepth 100000 in
set_option maxHeartbeats 1000000 in
theorem Shift_pen {row col n : Int} (q : Pen) (hT : Tabs w0) (hS : Objs w0 w (.grid p 35 cols L :: os)) (hc : 0 < cols) (hcm : cols ≤ 1000) (hin : (0 ≤ row ∧ row < L.length) ∧ 0 ≤ col ∧ col < cols) (hq : q.ok = false) :
    Calls Tryd.prog 49 #[.pointer (some ⟨p, 0, none⟩), .int .i64 row, .int .i64 col, .int .i64 n, .agg (pv q)] w fun e w' => e = .returned (.int .i64 2) ∧ Objs w0 w' (.grid p 35 cols L :: os) := by
  have S := Lib.hid hS
  have HT := Lib.hid hT
  have HE := Lib.hid (show atE row col cols L = 0 by unfold atE; rw [if_pos hin])
  clear hin
  have HQ := Lib.hid hq
  clear hq
  clear hS hT
  go_enter Tryd.func49, Tryd.ntmps49
  go_wp2_with fail
  refine (at_any row col S.out.alloc1 (k := 1) rfl hc).mono ?_
  rw [HE.out]
  rintro e w1 ⟨rfl, hS⟩
  have S1 := Lib.hid hS
  obtain ⟨A0, c0, hB0, -, -⟩ := hS.gridRd (k := 1) rfl
  obtain ⟨hx0, hf0, hz0⟩ := hB0.facts
  obtain ⟨hx9, hf9, hz9, hp9⟩ := (hS.box (k := 0) rfl).pbox
  clear hS S hB0
  generalize w.heap.size = b9 at S1 hx9 hf9 hz9 hp9 ⊢
  go_wp2_with fail
  refine (inked_is HQ.out HT.out S1.out).mono ?_
  rintro e w2 ⟨rfl, hS⟩
  have S2 := Lib.hid hS
  clear hS
  go_wp2_with fail
  go_ret
  exact ⟨rfl, S2.out.tail⟩
set_option maxRecDepth 100000 in
set_option maxHeartbeats 1000000 in
theorem Shift_none {row col n : Int} (q : Pen) (hT : Tabs w0) (hS : Objs w0 w (.grid p 35 cols L :: os)) (hc : 0 < cols) (hcm : cols ≤ 1000) (hin : (0 ≤ row ∧ row < L.length) ∧ 0 ≤ col ∧ col < cols) (hq : q.ok = true) (hn : n = 0) :
    Calls Tryd.prog 49 #[.pointer (some ⟨p, 0, none⟩), .int .i64 row, .int .i64 col, .int .i64 n, .agg (pv q)] w fun e w' => e = .returned (.int .i64 0) ∧ Objs w0 w' (.grid p 35 cols L :: os) := by
  have S := Lib.hid hS
  have HT := Lib.hid hT
  have HE := Lib.hid (show atE row col cols L = 0 by unfold atE; rw [if_pos hin])
  clear hin
  have HQ := Lib.hid hq
  subst hn
  clear hq
  clear hS hT
  go_enter Tryd.func49, Tryd.ntmps49
  go_wp2_with fail
  refine (at_any row col S.out.alloc1 (k := 1) rfl hc).mono ?_
  rw [HE.out]
  rintro e w1 ⟨rfl, hS⟩
  have S1 := Lib.hid hS
  obtain ⟨A0, c0, hB0, -, -⟩ := hS.gridRd (k := 1) rfl
  obtain ⟨hx0, hf0, hz0⟩ := hB0.facts
  obtain ⟨hx9, hf9, hz9, hp9⟩ := (hS.box (k := 0) rfl).pbox
  clear hS S hB0
  generalize w.heap.size = b9 at S1 hx9 hf9 hz9 hp9 ⊢
  go_wp2_with fail
  refine (inked_is HQ.out HT.out S1.out).mono ?_
  rintro e w2 ⟨rfl, hS⟩
  have S2 := Lib.hid hS
  clear hS
  go_wp2_with fail
  go_ret
  exact ⟨rfl, S2.out.tail⟩
set_option maxRecDepth 100000 in
set_option maxHeartbeats 4000000 in
theorem Shift_left1 {i j k : Nat} {l : Ln} (q : Pen) (hT : Tabs w0) (hS : Objs w0 w (.grid p 35 cols L :: os)) (hc : 0 < cols) (hcm : cols ≤ 1000) (hl : L[i]? = some l) (hrow : l.1.length = cols) (hq : q.ok = true) (hj : j < cols) (hk1 : 1 ≤ k) (hk2 : j + k < cols) :
    Calls Tryd.prog 49 #[.pointer (some ⟨p, 0, none⟩), .int .i64 i, .int .i64 j, .int .i64 (-(k : Int)), .agg (pv q)] w fun e w' => e = .returned (.int .i64 0) ∧ Objs w0 w' (.grid p 35 cols (L.set i (shiftL j k q l.1, l.2)) :: os) := by
  have S := Lib.hid hS
  have hi : i < L.length := (List.getElem?_eq_some_iff.1 hl).1
  have HL := Lib.hid hl
  have HT := Lib.hid hT
  have HQ := Lib.hid hq
  have HROW := Lib.hid hrow
  have hlr : l.1.length ≤ 1000 := by omega
  have hlr2 : cols ≤ l.1.length := by omega
  have hlr3 : l.1.length ≤ cols := by omega
  have HE := Lib.hid (show atE i j cols L = 0 by unfold atE; rw [if_pos ⟨⟨by omega, by omega⟩, by omega, by omega⟩])
  have hkj : j + k ≤ cols := by omega
  have hk1 : 1 ≤ k := by omega
  have hn0 : ((-(k : Int)) == 0) = false := by simp; omega
  have hng : ¬ (0 < -(k : Int)) := by omega
  have hcmp : -((cols : Int) - j) < -(k : Int) := by omega
  have HP := Lib.hid (show wipeC (cols - k) (l.1.length - (cols - k)) q ((brk (j + k) (brk j l.1)).take j ++ (((brk (j + k) (brk j l.1)).drop (j + k)).take (cols - (j + k)) ++ (brk (j + k) (brk j l.1)).drop (j + (cols - (j + k))))) = shiftL j k q l.1 by
    have hb : (brk (j + k) (brk j l.1)).length = cols := by rw [brk_length, brk_length, hrow]
    have h := shiftL_is (j := j) (k := k) (q := q) (l := brk (j + k) (brk j l.1)) (by omega)
    rw [hb] at h
    rw [show l.1.length - (cols - k) = k by omega, h]
    rfl)
  clear hS hT hl hrow hq
  go_enter Tryd.func49, Tryd.ntmps49
  go_wp2_with fail
  refine (at_any i j S.out.alloc1 (k := 1) rfl hc).mono ?_
  rw [HE.out]
  rintro e w1 ⟨rfl, hS⟩
  have S1 := Lib.hid hS
  obtain ⟨A0, c0, hB0, -, -⟩ := hS.gridRd (k := 1) rfl
  obtain ⟨hx0, hf0, hz0⟩ := hB0.facts
  obtain ⟨hx9, hf9, hz9, hp9⟩ := (hS.box (k := 0) rfl).pbox
  clear hS S hB0
  generalize w.heap.size = b9 at S1 hx9 hf9 hz9 hp9 ⊢
  go_wp2_with fail
  refine (inked_is HQ.out HT.out S1.out).mono ?_
  rintro e w2 ⟨rfl, hS⟩
  have S2 := Lib.hid hS
  clear hS hx0 hf0 hz0 hx9 hf9 hz9 hp9
  obtain ⟨v, b, hS3⟩ := S2.out.swap.openAt HL.out
  obtain ⟨A, c, rfl, hrd⟩ := hS3.cellsRd (k := 0) rfl
  have hnc : l.1.length ≤ c := hrd.1
  obtain ⟨g, rfl, -, -, -, -⟩ := (hS3.own (k := 0) rfl).head (by omega)
  obtain ⟨gr, cr, rfl, h1, h2, h3, h4, h5, h6, h7⟩ := hS3.linesxRd (k := 1) rfl
  obtain ⟨hx2, hf2, hz2⟩ := (hS3.box (k := 2) rfl).facts
  have hlen2 : L.length ≤ 9223372036854775807 := by unfold maxLen at h2; omega
  have S3 := Lib.hid hS3
  clear hS3 h1 h2 h6 hrd
  go_wp2_with fail
  refine (split_at (c := j) S3.out rfl rfl (by omega) (by omega)).mono ?_
  rintro e w4 ⟨rfl, hS4⟩
  have S4 := Lib.hid hS4
  obtain ⟨hx2, hf2, hz2⟩ := (hS4.box (k := 2) rfl).facts
  clear hS4 h4 h5 h7
  go_wp2_with fail
  refine (split_at (c := j + k) S4.out (by rw [brk_length]) (by omega) (by rw [brk_length]; omega) (by omega)).mono ?_
  rintro e w5 ⟨rfl, hS5⟩
  have S5 := Lib.hid hS5
  have HW1 := Lib.hid (show IntKind.i64.wrap ((j : Int) + k) = ((j + k : Nat) : Int) by rw [IntWalk.i64_in _ (by omega)]; omega)
  have HW2 := Lib.hid (show IntKind.i64.wrap ((cols : Int) - k) = ((cols - k : Nat) : Int) by rw [IntWalk.i64_in _ (by omega)]; omega)
  clear hS5 hx2 hf2 hz2 hn0 hng hcmp
  go_upto_region 21 with (fail)
  refine wp_region_stage (w0 := w0) (os := os) (by kernel_rfl) (by kernel_rfl) (by kernel_rfl) [(0, 8, [], fun vs => .cells (.slice (some ⟨g, 0, none⟩) l.1.length c) ((brk (j + k) (brk j l.1)).take j ++ (((brk (j + k) (brk j l.1)).drop (j + k)).take (cols - (j + k)) ++ (brk (j + k) (brk j l.1)).drop (j + (cols - (j + k))))))] [[], [], [], [], [], [], [], [], [0]] [.cells (.slice (some ⟨g, 0, none⟩) l.1.length c) (brk (j + k) (brk j l.1)), .linesx (.slice (some ⟨gr, 0, none⟩) L.length cr) L i (.slice (some ⟨g, 0, none⟩) l.1.length c), .box p 35 #[.int .i64 ↑cols, .slice (some ⟨gr, 0, none⟩) L.length cr], .box b9 29 (pv q)] (fun i u => match i with | 0 => u = (.slice (some ⟨g, 0, none⟩) l.1.length c : Value) | 1 => u = (.int .i64 ↑j : Value) | 2 => u = (.slice (tailA (some ⟨g, 0, none⟩) c j) (l.1.length - j) (c - j) : Value) | 3 => u = (.slice (some ⟨g, 0, none⟩) l.1.length c : Value) | 4 => u = (.int .i64 ↑j : Value) | 5 => u = (.int .i64 ↑k : Value) | 6 => u = (.int .i64 ↑(j + k) : Value) | 7 => u = (.slice (tailA (some ⟨g, 0, none⟩) c (j + k)) (l.1.length - (j + k)) (c - (j + k)) : Value) | 8 => True | _ => True) (fun vs => [.cells (.slice (some ⟨g, 0, none⟩) l.1.length c) ((brk (j + k) (brk j l.1)).take j ++ (((brk (j + k) (brk j l.1)).drop (j + k)).take (cols - (j + k)) ++ (brk (j + k) (brk j l.1)).drop (j + (cols - (j + k))))), .linesx (.slice (some ⟨gr, 0, none⟩) L.length cr) L i (.slice (some ⟨g, 0, none⟩) l.1.length c), .box p 35 #[.int .i64 ↑cols, .slice (some ⟨gr, 0, none⟩) L.length cr], .box b9 29 (pv q)]) (by kernel_rfl) (fun vs => by rfl) S5.out ?_ ?_
  · refine SSteps.cons (fun a w' vs σ hS hl hs hk => ?_) ?_
    · have e12 : a.tmps.getD 12 undef = (.slice (some ⟨g, 0, none⟩) l.1.length c : Value) := (sk_old hk 12 (by kernel_rfl)).trans rfl
      have f12 := gd e12
      exact ro_pure (v := .slice (some ⟨g, 0, none⟩) l.1.length c) (wanted_none rfl) (by simp [execOp, Act.eval, e12, f12, go_sem]) (sp_same (by kernel_rfl) hl hs hS (show (.slice (some ⟨g, 0, none⟩) l.1.length c : Value) = _ from rfl)) trivial
    refine SSteps.cons (fun a w' vs σ hS hl hs hk => ?_) ?_
    · have e2 : a.tmps.getD 2 undef = (.int .i64 ↑j : Value) := (sk_old hk 2 (by kernel_rfl)).trans rfl
      have f2 := gd e2
      exact ro_pure (v := .int .i64 ↑j) (wanted_none rfl) (by simp [execOp, Act.eval, e2, f2, go_sem]) (sp_same (by kernel_rfl) hl hs hS (show (.int .i64 ↑j : Value) = _ from rfl)) trivial
    refine SSteps.cons (fun a w' vs σ hS hl hs hk => ?_) ?_
    · have e96 : a.tmps.getD 96 undef = (.slice (some ⟨g, 0, none⟩) l.1.length c : Value) := (sk_val hk 0 (by kernel_rfl) rfl rfl).trans ((hk.1 0 (by kernel_rfl)).1)
      have f96 := gd e96
      have e97 : a.tmps.getD 97 undef = (.int .i64 ↑j : Value) := (sk_val hk 1 (by kernel_rfl) rfl rfl).trans ((hk.1 1 (by kernel_rfl)).1)
      have f97 := gd e97
      exact rs_run (wanted_none rfl) (exec_slice rfl (by simp [Act.eval, e96, f96, e97, f97]) (by simp [Act.eval, e96, f96, e97, f97]; try rfl) (by simp [Act.eval, e96, f96, e97, f97]; try rfl) (run_from w' (some ⟨g, 0, none⟩) l.1.length c j (by omega) (by omega) (fun h => by cases h) (by omega))) (sp_same (by kernel_rfl) hl hs hS (show (.slice (tailA (some ⟨g, 0, none⟩) c j) (l.1.length - j) (c - j) : Value) = _ from rfl))
    refine SSteps.cons (fun a w' vs σ hS hl hs hk => ?_) ?_
    · have e12 : a.tmps.getD 12 undef = (.slice (some ⟨g, 0, none⟩) l.1.length c : Value) := (sk_old hk 12 (by kernel_rfl)).trans rfl
      have f12 := gd e12
      exact ro_pure (v := .slice (some ⟨g, 0, none⟩) l.1.length c) (wanted_none rfl) (by simp [execOp, Act.eval, e12, f12, go_sem]) (sp_same (by kernel_rfl) hl hs hS (show (.slice (some ⟨g, 0, none⟩) l.1.length c : Value) = _ from rfl)) trivial
    refine SSteps.cons (fun a w' vs σ hS hl hs hk => ?_) ?_
    · have e2 : a.tmps.getD 2 undef = (.int .i64 ↑j : Value) := (sk_old hk 2 (by kernel_rfl)).trans rfl
      have f2 := gd e2
      exact ro_pure (v := .int .i64 ↑j) (wanted_none rfl) (by simp [execOp, Act.eval, e2, f2, go_sem]) (sp_same (by kernel_rfl) hl hs hS (show (.int .i64 ↑j : Value) = _ from rfl)) trivial
    refine SSteps.cons (fun a w' vs σ hS hl hs hk => ?_) ?_
    · have e15 : a.tmps.getD 15 undef = (.int .i64 ↑k : Value) := (sk_old hk 15 (by kernel_rfl)).trans rfl
      have f15 := gd e15
      exact ro_pure (v := .int .i64 ↑k) (wanted_none rfl) (by simp [execOp, Act.eval, e15, f15, go_sem]) (sp_same (by kernel_rfl) hl hs hS (show (.int .i64 ↑k : Value) = _ from rfl)) trivial
    refine SSteps.cons (fun a w' vs σ hS hl hs hk => ?_) ?_
    · have e100 : a.tmps.getD 100 undef = (.int .i64 ↑j : Value) := (sk_val hk 4 (by kernel_rfl) rfl rfl).trans ((hk.1 4 (by kernel_rfl)).1)
      have f100 := gd e100
      have e101 : a.tmps.getD 101 undef = (.int .i64 ↑k : Value) := (sk_val hk 5 (by kernel_rfl) rfl rfl).trans ((hk.1 5 (by kernel_rfl)).1)
      have f101 := gd e101
      exact ro_pure (v := .int .i64 ↑(j + k)) (wanted_none rfl) (by simp [execOp, Act.eval, e100, f100, e101, f101, go_sem, HW1.out]) (sp_same (by kernel_rfl) hl hs hS (show (.int .i64 ↑(j + k) : Value) = _ from rfl)) trivial
    refine SSteps.cons (fun a w' vs σ hS hl hs hk => ?_) ?_
    · have e99 : a.tmps.getD 99 undef = (.slice (some ⟨g, 0, none⟩) l.1.length c : Value) := (sk_val hk 3 (by kernel_rfl) rfl rfl).trans ((hk.1 3 (by kernel_rfl)).1)
      have f99 := gd e99
      have e102 : a.tmps.getD 102 undef = (.int .i64 ↑(j + k) : Value) := (sk_val hk 6 (by kernel_rfl) rfl rfl).trans ((hk.1 6 (by kernel_rfl)).1)
      have f102 := gd e102
      exact rs_run (wanted_none rfl) (exec_slice rfl (by simp [Act.eval, e99, f99, e102, f102]) (by simp [Act.eval, e99, f99, e102, f102]; try rfl) (by simp [Act.eval, e99, f99, e102, f102]; try rfl) (run_from w' (some ⟨g, 0, none⟩) l.1.length c (j + k) (by omega) (by omega) (fun h => by cases h) (by omega))) (sp_same (by kernel_rfl) hl hs hS (show (.slice (tailA (some ⟨g, 0, none⟩) c (j + k)) (l.1.length - (j + k)) (c - (j + k)) : Value) = _ from rfl))
    refine SSteps.cons (fun a w' vs σ hS hl hs hk => ?_) ?_
    · have e98 : a.tmps.getD 98 undef = (.slice (tailA (some ⟨g, 0, none⟩) c j) (l.1.length - j) (c - j) : Value) := (sk_val hk 2 (by kernel_rfl) rfl rfl).trans ((hk.1 2 (by kernel_rfl)).1)
      have f98 := gd e98
      have e103 : a.tmps.getD 103 undef = (.slice (tailA (some ⟨g, 0, none⟩) c (j + k)) (l.1.length - (j + k)) (c - (j + k)) : Value) := (sk_val hk 7 (by kernel_rfl) rfl rfl).trans ((hk.1 7 (by kernel_rfl)).1)
      have f103 := gd e103
      have h0 : σ[0]? = some (.cells (.slice (some ⟨g, 0, none⟩) l.1.length c) (brk (j + k) (brk j l.1))) := hs 0 (by decide)
      obtain ⟨W, hr, hW⟩ := run_copyO hS (sg h0) (j) (j + k) (cols - (j + k)) (tailA (some ⟨g, 0, none⟩) c j) (tailA (some ⟨g, 0, none⟩) c (j + k)) (l.1.length - j) (c - j) (l.1.length - (j + k)) (c - (j + k)) (by show min (l.1.length - (j + k)) (l.1.length - j) = _; omega) (by rw [brk_length, brk_length]; omega) (by rw [brk_length, brk_length]; omega) (fun hp => ⟨tailA_at (by omega), tailA_at (by omega)⟩) 3
      exact rs_run (wanted_none rfl) (exec_copy rfl (by simp only [Act.eval]; exact e98) (by simp only [Act.eval]; exact e103) hr) (sp_set 0 _ (by kernel_rfl) (by simp) (by decide) hl hs (by rfl) hW trivial)
    exact SSteps.nil
  · intro vs w' hS hv
    have q0 := (show vs 0 = (.slice (some ⟨g, 0, none⟩) l.1.length c : Value) from hv 0 (by decide))
    have q1 := (show vs 1 = (.int .i64 ↑j : Value) from hv 1 (by decide))
    have q2 := (show vs 2 = (.slice (tailA (some ⟨g, 0, none⟩) c j) (l.1.length - j) (c - j) : Value) from hv 2 (by decide))
    have q3 := (show vs 3 = (.slice (some ⟨g, 0, none⟩) l.1.length c : Value) from hv 3 (by decide))
    have q4 := (show vs 4 = (.int .i64 ↑j : Value) from hv 4 (by decide))
    have q5 := (show vs 5 = (.int .i64 ↑k : Value) from hv 5 (by decide))
    have q6 := (show vs 6 = (.int .i64 ↑(j + k) : Value) from hv 6 (by decide))
    have q7 := (show vs 7 = (.slice (tailA (some ⟨g, 0, none⟩) c (j + k)) (l.1.length - (j + k)) (c - (j + k)) : Value) from hv 7 (by decide))
    have S2 := Lib.hid hS
    simp only [putL, Act.put, Nat.zero_add, Nat.reduceAdd, List.setIfInBounds_toArray, List.set_cons_succ, List.set_cons_zero, q0, q1, q2, q3, q4, q5, q6, q7]
    clear hS hv q0 q1 q2 q3 q4 q5 q6 q7
    clear S5
    have S6 := S2
    clear S2
    have HCL := Lib.hid (show ((brk (j + k) (brk j l.1)).take j ++ (((brk (j + k) (brk j l.1)).drop (j + k)).take (cols - (j + k)) ++ (brk (j + k) (brk j l.1)).drop (j + (cols - (j + k))))).length = cols by simp only [List.length_append, List.length_take, List.length_drop, brk_length]; omega)
    go_upto_region 22 with (fail)
    refine wp_region_stage (w0 := w0) (os := os) (by kernel_rfl) (by kernel_rfl) (by kernel_rfl) [(0, 9, [], fun vs => .cells (.slice (some ⟨g, 0, none⟩) l.1.length c) (wipeC (cols - k) (l.1.length - (cols - k)) q ((brk (j + k) (brk j l.1)).take j ++ (((brk (j + k) (brk j l.1)).drop (j + k)).take (cols - (j + k)) ++ (brk (j + k) (brk j l.1)).drop (j + (cols - (j + k)))))))] [[], [], [], [], [2], [], [], [], [3], [0]] [.cells (.slice (some ⟨g, 0, none⟩) l.1.length c) ((brk (j + k) (brk j l.1)).take j ++ (((brk (j + k) (brk j l.1)).drop (j + k)).take (cols - (j + k)) ++ (brk (j + k) (brk j l.1)).drop (j + (cols - (j + k))))), .linesx (.slice (some ⟨gr, 0, none⟩) L.length cr) L i (.slice (some ⟨g, 0, none⟩) l.1.length c), .box p 35 #[.int .i64 ↑cols, .slice (some ⟨gr, 0, none⟩) L.length cr], .box b9 29 (pv q)] (fun i u => match i with | 0 => u = (.slice (some ⟨g, 0, none⟩) l.1.length c : Value) | 1 => u = (.pointer (some ⟨p, 0, none⟩) : Value) | 2 => u = (.pointer (some ⟨p, 0, none⟩) : Value) | 3 => u = (.pointer (some ⟨p, 0, none⟩) : Value) | 4 => u = (.int .i64 ↑cols : Value) | 5 => u = (.int .i64 ↑k : Value) | 6 => u = (.int .i64 ↑(cols - k) : Value) | 7 => u = (.slice (tailA (some ⟨g, 0, none⟩) c (cols - k)) (l.1.length - (cols - k)) (c - (cols - k)) : Value) | 8 => u = (.agg (pv q) : Value) | 9 => u = (.tuple #[] : Value) | _ => True) (fun vs => [.cells (.slice (some ⟨g, 0, none⟩) l.1.length c) (wipeC (cols - k) (l.1.length - (cols - k)) q ((brk (j + k) (brk j l.1)).take j ++ (((brk (j + k) (brk j l.1)).drop (j + k)).take (cols - (j + k)) ++ (brk (j + k) (brk j l.1)).drop (j + (cols - (j + k)))))), .linesx (.slice (some ⟨gr, 0, none⟩) L.length cr) L i (.slice (some ⟨g, 0, none⟩) l.1.length c), .box p 35 #[.int .i64 ↑cols, .slice (some ⟨gr, 0, none⟩) L.length cr], .box b9 29 (pv q)]) (by kernel_rfl) (fun vs => by rfl) S6.out ?_ ?_
    · refine SSteps.cons (fun a w' vs σ hS hl hs hk => ?_) ?_
      · have e12 : a.tmps.getD 12 undef = (.slice (some ⟨g, 0, none⟩) l.1.length c : Value) := (sk_old hk 12 (by kernel_rfl)).trans rfl
        have f12 := gd e12
        exact ro_pure (v := .slice (some ⟨g, 0, none⟩) l.1.length c) (wanted_none rfl) (by simp [execOp, Act.eval, e12, f12, go_sem]) (sp_same (by kernel_rfl) hl hs hS (show (.slice (some ⟨g, 0, none⟩) l.1.length c : Value) = _ from rfl)) trivial
      refine SSteps.cons (fun a w' vs σ hS hl hs hk => ?_) ?_
      · have e0 : a.tmps.getD 0 undef = (.pointer (some ⟨p, 0, none⟩) : Value) := (sk_old hk 0 (by kernel_rfl)).trans rfl
        have f0 := gd e0
        exact ro_pure (v := .pointer (some ⟨p, 0, none⟩)) (wanted_none rfl) (by simp [execOp, Act.eval, e0, f0, go_sem]) (sp_same (by kernel_rfl) hl hs hS (show (.pointer (some ⟨p, 0, none⟩) : Value) = _ from rfl)) trivial
      refine SSteps.cons (fun a w' vs σ hS hl hs hk => ?_) ?_
      · have e106 : a.tmps.getD 106 undef = (.pointer (some ⟨p, 0, none⟩) : Value) := (sk_val hk 1 (by kernel_rfl) rfl rfl).trans ((hk.1 1 (by kernel_rfl)).1)
        have f106 := gd e106
        exact ro_pure (v := .pointer (some ⟨p, 0, none⟩)) (wanted_none rfl) (by simp [execOp, Act.eval, e106, f106, go_sem]) (sp_same (by kernel_rfl) hl hs hS (show (.pointer (some ⟨p, 0, none⟩) : Value) = _ from rfl)) trivial
      refine SSteps.cons (fun a w' vs σ hS hl hs hk => ?_) ?_
      · have e107 : a.tmps.getD 107 undef = (.pointer (some ⟨p, 0, none⟩) : Value) := (sk_val hk 2 (by kernel_rfl) rfl rfl).trans ((hk.1 2 (by kernel_rfl)).1)
        have f107 := gd e107
        exact ro_pure (v := .pointer (some ⟨p, 0, none⟩)) (wanted_none rfl) (by simp [execOp, Act.eval, e107, f107, go_sem]) (sp_same (by kernel_rfl) hl hs hS (show (.pointer (some ⟨p, 0, none⟩) : Value) = _ from rfl)) trivial
      refine SSteps.cons (fun a w' vs σ hS hl hs hk => ?_) ?_
      · have e108 : a.tmps.getD 108 undef = (.pointer (some ⟨p, 0, none⟩) : Value) := (sk_val hk 3 (by kernel_rfl) rfl rfl).trans ((hk.1 3 (by kernel_rfl)).1)
        have f108 := gd e108
        have hx := (hS.box (sg (hs 2 (by decide)))).cell
        exact ro_pure (v := .int .i64 ↑cols) (wanted_none rfl) (by simp [execOp, Act.eval, e108, f108, go_sem, hx]) (sp_same (by kernel_rfl) hl hs hS (show (.int .i64 ↑cols : Value) = _ from rfl)) trivial
      refine SSteps.cons (fun a w' vs σ hS hl hs hk => ?_) ?_
      · have e15 : a.tmps.getD 15 undef = (.int .i64 ↑k : Value) := (sk_old hk 15 (by kernel_rfl)).trans rfl
        have f15 := gd e15
        exact ro_pure (v := .int .i64 ↑k) (wanted_none rfl) (by simp [execOp, Act.eval, e15, f15, go_sem]) (sp_same (by kernel_rfl) hl hs hS (show (.int .i64 ↑k : Value) = _ from rfl)) trivial
      refine SSteps.cons (fun a w' vs σ hS hl hs hk => ?_) ?_
      · have e109 : a.tmps.getD 109 undef = (.int .i64 ↑cols : Value) := (sk_val hk 4 (by kernel_rfl) rfl rfl).trans ((hk.1 4 (by kernel_rfl)).1)
        have f109 := gd e109
        have e110 : a.tmps.getD 110 undef = (.int .i64 ↑k : Value) := (sk_val hk 5 (by kernel_rfl) rfl rfl).trans ((hk.1 5 (by kernel_rfl)).1)
        have f110 := gd e110
        exact ro_pure (v := .int .i64 ↑(cols - k)) (wanted_none rfl) (by simp [execOp, Act.eval, e109, f109, e110, f110, go_sem, HW2.out]) (sp_same (by kernel_rfl) hl hs hS (show (.int .i64 ↑(cols - k) : Value) = _ from rfl)) trivial
      refine SSteps.cons (fun a w' vs σ hS hl hs hk => ?_) ?_
      · have e105 : a.tmps.getD 105 undef = (.slice (some ⟨g, 0, none⟩) l.1.length c : Value) := (sk_val hk 0 (by kernel_rfl) rfl rfl).trans ((hk.1 0 (by kernel_rfl)).1)
        have f105 := gd e105
        have e111 : a.tmps.getD 111 undef = (.int .i64 ↑(cols - k) : Value) := (sk_val hk 6 (by kernel_rfl) rfl rfl).trans ((hk.1 6 (by kernel_rfl)).1)
        have f111 := gd e111
        exact rs_run (wanted_none rfl) (exec_slice rfl (by simp [Act.eval, e105, f105, e111, f111]) (by simp [Act.eval, e105, f105, e111, f111]; try rfl) (by simp [Act.eval, e105, f105, e111, f111]; try rfl) (run_from w' (some ⟨g, 0, none⟩) l.1.length c (cols - k) (by omega) (by omega) (fun h => by cases h) (by omega))) (sp_same (by kernel_rfl) hl hs hS (show (.slice (tailA (some ⟨g, 0, none⟩) c (cols - k)) (l.1.length - (cols - k)) (c - (cols - k)) : Value) = _ from rfl))
      refine SSteps.cons (fun a w' vs σ hS hl hs hk => ?_) ?_
      · have e9 : a.tmps.getD 9 undef = (.pointer (some ⟨b9, 0, none⟩) : Value) := (sk_old hk 9 (by kernel_rfl)).trans rfl
        have f9 := gd e9
        have hx := (hS.box (sg (hs 3 (by decide)))).penAt
        exact ro_pure (v := .agg (pv q)) (wanted_none rfl) (by simp [execOp, Act.eval, e9, f9, go_sem, hx]) (sp_same (by kernel_rfl) hl hs hS (show (.agg (pv q) : Value) = _ from rfl)) trivial
      refine SSteps.cons (fun a w' vs σ hS hl hs hk => ?_) ?_
      · have e112 : a.tmps.getD 112 undef = (.slice (tailA (some ⟨g, 0, none⟩) c (cols - k)) (l.1.length - (cols - k)) (c - (cols - k)) : Value) := (sk_val hk 7 (by kernel_rfl) rfl rfl).trans ((hk.1 7 (by kernel_rfl)).1)
        have f112 := gd e112
        have e113 : a.tmps.getD 113 undef = (.agg (pv q) : Value) := (sk_val hk 8 (by kernel_rfl) rfl rfl).trans ((hk.1 8 (by kernel_rfl)).1)
        have f113 := gd e113
        have h0 : σ[0]? = some (.cells (.slice (some ⟨g, 0, none⟩) l.1.length c) ((brk (j + k) (brk j l.1)).take j ++ (((brk (j + k) (brk j l.1)).drop (j + k)).take (cols - (j + k)) ++ (brk (j + k) (brk j l.1)).drop (j + (cols - (j + k)))))) := hs 0 (by decide)
        rw [tailA_at (by omega)] at e112
        exact ro_call (f := 84) (wanted_none rfl) rfl (by simp only [List.map_toArray, List.map_cons, List.map_nil, Act.eval, e112, e113] <;> rfl) (fun _ _ => by kernel_rfl) ((front_call hS (sg h0) (fun os1 h => wipe_front g l.1.length c (cols - k) (l.1.length - (cols - k)) (c - (cols - k)) ((brk (j + k) (brk j l.1)).take j ++ (((brk (j + k) (brk j l.1)).drop (j + k)).take (cols - (j + k)) ++ (brk (j + k) (brk j l.1)).drop (j + (cols - (j + k))))) q w0 w' os1 h (by have := HCL.out; omega) (by omega) (by have := HCL.out; omega))).mono fun e w2 ⟨h1, h2⟩ => ⟨_, h1, sp_set 0 _ (by kernel_rfl) (by simp) (by decide) hl hs (by rfl) h2 rfl, trivial⟩)
      exact SSteps.nil
    · intro vs w' hS hv
      have q0 := (show vs 0 = (.slice (some ⟨g, 0, none⟩) l.1.length c : Value) from hv 0 (by decide))
      have q1 := (show vs 1 = (.pointer (some ⟨p, 0, none⟩) : Value) from hv 1 (by decide))
      have q2 := (show vs 2 = (.pointer (some ⟨p, 0, none⟩) : Value) from hv 2 (by decide))
      have q3 := (show vs 3 = (.pointer (some ⟨p, 0, none⟩) : Value) from hv 3 (by decide))
      have q4 := (show vs 4 = (.int .i64 ↑cols : Value) from hv 4 (by decide))
      have q5 := (show vs 5 = (.int .i64 ↑k : Value) from hv 5 (by decide))
      have q6 := (show vs 6 = (.int .i64 ↑(cols - k) : Value) from hv 6 (by decide))
      have q7 := (show vs 7 = (.slice (tailA (some ⟨g, 0, none⟩) c (cols - k)) (l.1.length - (cols - k)) (c - (cols - k)) : Value) from hv 7 (by decide))
      have q8 := (show vs 8 = (.agg (pv q) : Value) from hv 8 (by decide))
      have q9 := (show vs 9 = (.tuple #[] : Value) from hv 9 (by decide))
      have S2 := Lib.hid hS
      simp only [putL, Act.put, Nat.zero_add, Nat.reduceAdd, List.setIfInBounds_toArray, List.set_cons_succ, List.set_cons_zero, q0, q1, q2, q3, q4, q5, q6, q7, q8, q9]
      clear hS hv q0 q1 q2 q3 q4 q5 q6 q7 q8 q9
      have HF := (show Objs w0 w' (_ :: _ :: _ :: _ :: os) from S2.out).closeAt HL.out
      rw [HP.out] at HF
      go_wp2_with fail
      go_ret
      exact ⟨rfl, HF.drop2⟩
set_option maxRecDepth 100000 in
set_option maxHeartbeats 4000000 in
theorem Shift_left2 {i j k : Nat} {l : Ln} (q : Pen) (hT : Tabs w0) (hS : Objs w0 w (.grid p 35 cols L :: os)) (hc : 0 < cols) (hcm : cols ≤ 1000) (hl : L[i]? = some l) (hrow : l.1.length = cols) (hq : q.ok = true) (n : Int) (hj : j < cols) (hk3 : j + k = cols) (hn : n ≤ -(k : Int)) (hn2 : -9223372036854775808 ≤ n) :
    Calls Tryd.prog 49 #[.pointer (some ⟨p, 0, none⟩), .int .i64 i, .int .i64 j, .int .i64 n, .agg (pv q)] w fun e w' => e = .returned (.int .i64 0) ∧ Objs w0 w' (.grid p 35 cols (L.set i (shiftL j k q l.1, l.2)) :: os) := by
  have S := Lib.hid hS
  have hi : i < L.length := (List.getElem?_eq_some_iff.1 hl).1
  have HL := Lib.hid hl
  have HT := Lib.hid hT
  have HQ := Lib.hid hq
  have HROW := Lib.hid hrow
  have hlr : l.1.length ≤ 1000 := by omega
  have hlr2 : cols ≤ l.1.length := by omega
  have hlr3 : l.1.length ≤ cols := by omega
  have HE := Lib.hid (show atE i j cols L = 0 by unfold atE; rw [if_pos ⟨⟨by omega, by omega⟩, by omega, by omega⟩])
  have hkj : j + k ≤ cols := by omega
  have hk1 : 1 ≤ k := by omega
  have hn0 : (n == 0) = false := by simp; omega
  have hng : ¬ (0 < n) := by omega
  have hcmp : ¬ (-((cols : Int) - j) < n) := by omega
  have hck : (cols : Int) - j = k := by omega
  have HP := Lib.hid (show wipeC (cols - k) (l.1.length - (cols - k)) q ((brk (j + k) (brk j l.1)).take j ++ (((brk (j + k) (brk j l.1)).drop (j + k)).take (cols - (j + k)) ++ (brk (j + k) (brk j l.1)).drop (j + (cols - (j + k))))) = shiftL j k q l.1 by
    have hb : (brk (j + k) (brk j l.1)).length = cols := by rw [brk_length, brk_length, hrow]
    have h := shiftL_is (j := j) (k := k) (q := q) (l := brk (j + k) (brk j l.1)) (by omega)
    rw [hb] at h
    rw [show l.1.length - (cols - k) = k by omega, h]
    rfl)
  clear hS hT hl hrow hq
  go_enter Tryd.func49, Tryd.ntmps49
  go_wp2_with fail
  refine (at_any i j S.out.alloc1 (k := 1) rfl hc).mono ?_
  rw [HE.out]
  rintro e w1 ⟨rfl, hS⟩
  have S1 := Lib.hid hS
  obtain ⟨A0, c0, hB0, -, -⟩ := hS.gridRd (k := 1) rfl
  obtain ⟨hx0, hf0, hz0⟩ := hB0.facts
  obtain ⟨hx9, hf9, hz9, hp9⟩ := (hS.box (k := 0) rfl).pbox
  clear hS S hB0
  generalize w.heap.size = b9 at S1 hx9 hf9 hz9 hp9 ⊢
  go_wp2_with fail
  refine (inked_is HQ.out HT.out S1.out).mono ?_
  rintro e w2 ⟨rfl, hS⟩
  have S2 := Lib.hid hS
  clear hS hx0 hf0 hz0 hx9 hf9 hz9 hp9
  obtain ⟨v, b, hS3⟩ := S2.out.swap.openAt HL.out
  obtain ⟨A, c, rfl, hrd⟩ := hS3.cellsRd (k := 0) rfl
  have hnc : l.1.length ≤ c := hrd.1
  obtain ⟨g, rfl, -, -, -, -⟩ := (hS3.own (k := 0) rfl).head (by omega)
  obtain ⟨gr, cr, rfl, h1, h2, h3, h4, h5, h6, h7⟩ := hS3.linesxRd (k := 1) rfl
  obtain ⟨hx2, hf2, hz2⟩ := (hS3.box (k := 2) rfl).facts
  have hlen2 : L.length ≤ 9223372036854775807 := by unfold maxLen at h2; omega
  have S3 := Lib.hid hS3
  clear hS3 h1 h2 h6 hrd
  go_wp2_with fail
  refine (split_at (c := j) S3.out rfl rfl (by omega) (by omega)).mono ?_
  rintro e w4 ⟨rfl, hS4⟩
  have S4 := Lib.hid hS4
  obtain ⟨hx2, hf2, hz2⟩ := (hS4.box (k := 2) rfl).facts
  clear hS4 h4 h5 h7
  go_wp2_with fail
  refine (split_at (c := j + k) S4.out (by rw [brk_length]) (by omega) (by rw [brk_length]; omega) (by omega)).mono ?_
  rintro e w5 ⟨rfl, hS5⟩
  have S5 := Lib.hid hS5
  have HW1 := Lib.hid (show IntKind.i64.wrap ((j : Int) + k) = ((j + k : Nat) : Int) by rw [IntWalk.i64_in _ (by omega)]; omega)
  have HW2 := Lib.hid (show IntKind.i64.wrap ((cols : Int) - k) = ((cols - k : Nat) : Int) by rw [IntWalk.i64_in _ (by omega)]; omega)
  clear hS5 hx2 hf2 hz2 hn0 hng hcmp
  go_upto_region 21 with (fail)
  refine wp_region_stage (w0 := w0) (os := os) (by kernel_rfl) (by kernel_rfl) (by kernel_rfl) [(0, 8, [], fun vs => .cells (.slice (some ⟨g, 0, none⟩) l.1.length c) ((brk (j + k) (brk j l.1)).take j ++ (((brk (j + k) (brk j l.1)).drop (j + k)).take (cols - (j + k)) ++ (brk (j + k) (brk j l.1)).drop (j + (cols - (j + k))))))] [[], [], [], [], [], [], [], [], [0]] [.cells (.slice (some ⟨g, 0, none⟩) l.1.length c) (brk (j + k) (brk j l.1)), .linesx (.slice (some ⟨gr, 0, none⟩) L.length cr) L i (.slice (some ⟨g, 0, none⟩) l.1.length c), .box p 35 #[.int .i64 ↑cols, .slice (some ⟨gr, 0, none⟩) L.length cr], .box b9 29 (pv q)] (fun i u => match i with | 0 => u = (.slice (some ⟨g, 0, none⟩) l.1.length c : Value) | 1 => u = (.int .i64 ↑j : Value) | 2 => u = (.slice (tailA (some ⟨g, 0, none⟩) c j) (l.1.length - j) (c - j) : Value) | 3 => u = (.slice (some ⟨g, 0, none⟩) l.1.length c : Value) | 4 => u = (.int .i64 ↑j : Value) | 5 => u = (.int .i64 ↑k : Value) | 6 => u = (.int .i64 ↑(j + k) : Value) | 7 => u = (.slice (tailA (some ⟨g, 0, none⟩) c (j + k)) (l.1.length - (j + k)) (c - (j + k)) : Value) | 8 => True | _ => True) (fun vs => [.cells (.slice (some ⟨g, 0, none⟩) l.1.length c) ((brk (j + k) (brk j l.1)).take j ++ (((brk (j + k) (brk j l.1)).drop (j + k)).take (cols - (j + k)) ++ (brk (j + k) (brk j l.1)).drop (j + (cols - (j + k))))), .linesx (.slice (some ⟨gr, 0, none⟩) L.length cr) L i (.slice (some ⟨g, 0, none⟩) l.1.length c), .box p 35 #[.int .i64 ↑cols, .slice (some ⟨gr, 0, none⟩) L.length cr], .box b9 29 (pv q)]) (by kernel_rfl) (fun vs => by rfl) S5.out ?_ ?_
  · refine SSteps.cons (fun a w' vs σ hS hl hs hk => ?_) ?_
    · have e12 : a.tmps.getD 12 undef = (.slice (some ⟨g, 0, none⟩) l.1.length c : Value) := (sk_old hk 12 (by kernel_rfl)).trans rfl
      have f12 := gd e12
      exact ro_pure (v := .slice (some ⟨g, 0, none⟩) l.1.length c) (wanted_none rfl) (by simp [execOp, Act.eval, e12, f12, go_sem]) (sp_same (by kernel_rfl) hl hs hS (show (.slice (some ⟨g, 0, none⟩) l.1.length c : Value) = _ from rfl)) trivial
    refine SSteps.cons (fun a w' vs σ hS hl hs hk => ?_) ?_
    · have e2 : a.tmps.getD 2 undef = (.int .i64 ↑j : Value) := (sk_old hk 2 (by kernel_rfl)).trans rfl
      have f2 := gd e2
      exact ro_pure (v := .int .i64 ↑j) (wanted_none rfl) (by simp [execOp, Act.eval, e2, f2, go_sem]) (sp_same (by kernel_rfl) hl hs hS (show (.int .i64 ↑j : Value) = _ from rfl)) trivial
    refine SSteps.cons (fun a w' vs σ hS hl hs hk => ?_) ?_
    · have e96 : a.tmps.getD 96 undef = (.slice (some ⟨g, 0, none⟩) l.1.length c : Value) := (sk_val hk 0 (by kernel_rfl) rfl rfl).trans ((hk.1 0 (by kernel_rfl)).1)
      have f96 := gd e96
      have e97 : a.tmps.getD 97 undef = (.int .i64 ↑j : Value) := (sk_val hk 1 (by kernel_rfl) rfl rfl).trans ((hk.1 1 (by kernel_rfl)).1)
      have f97 := gd e97
      exact rs_run (wanted_none rfl) (exec_slice rfl (by simp [Act.eval, e96, f96, e97, f97]) (by simp [Act.eval, e96, f96, e97, f97]; try rfl) (by simp [Act.eval, e96, f96, e97, f97]; try rfl) (run_from w' (some ⟨g, 0, none⟩) l.1.length c j (by omega) (by omega) (fun h => by cases h) (by omega))) (sp_same (by kernel_rfl) hl hs hS (show (.slice (tailA (some ⟨g, 0, none⟩) c j) (l.1.length - j) (c - j) : Value) = _ from rfl))
    refine SSteps.cons (fun a w' vs σ hS hl hs hk => ?_) ?_
    · have e12 : a.tmps.getD 12 undef = (.slice (some ⟨g, 0, none⟩) l.1.length c : Value) := (sk_old hk 12 (by kernel_rfl)).trans rfl
      have f12 := gd e12
      exact ro_pure (v := .slice (some ⟨g, 0, none⟩) l.1.length c) (wanted_none rfl) (by simp [execOp, Act.eval, e12, f12, go_sem]) (sp_same (by kernel_rfl) hl hs hS (show (.slice (some ⟨g, 0, none⟩) l.1.length c : Value) = _ from rfl)) trivial
    refine SSteps.cons (fun a w' vs σ hS hl hs hk => ?_) ?_
    · have e2 : a.tmps.getD 2 undef = (.int .i64 ↑j : Value) := (sk_old hk 2 (by kernel_rfl)).trans rfl
      have f2 := gd e2
      exact ro_pure (v := .int .i64 ↑j) (wanted_none rfl) (by simp [execOp, Act.eval, e2, f2, go_sem]) (sp_same (by kernel_rfl) hl hs hS (show (.int .i64 ↑j : Value) = _ from rfl)) trivial
    refine SSteps.cons (fun a w' vs σ hS hl hs hk => ?_) ?_
    · have e15 : a.tmps.getD 15 undef = (.int .i64 ↑k : Value) := (sk_old hk 15 (by kernel_rfl)).trans rfl
      have f15 := gd e15
      exact ro_pure (v := .int .i64 ↑k) (wanted_none rfl) (by simp [execOp, Act.eval, e15, f15, go_sem]) (sp_same (by kernel_rfl) hl hs hS (show (.int .i64 ↑k : Value) = _ from rfl)) trivial
    refine SSteps.cons (fun a w' vs σ hS hl hs hk => ?_) ?_
    · have e100 : a.tmps.getD 100 undef = (.int .i64 ↑j : Value) := (sk_val hk 4 (by kernel_rfl) rfl rfl).trans ((hk.1 4 (by kernel_rfl)).1)
      have f100 := gd e100
      have e101 : a.tmps.getD 101 undef = (.int .i64 ↑k : Value) := (sk_val hk 5 (by kernel_rfl) rfl rfl).trans ((hk.1 5 (by kernel_rfl)).1)
      have f101 := gd e101
      exact ro_pure (v := .int .i64 ↑(j + k)) (wanted_none rfl) (by simp [execOp, Act.eval, e100, f100, e101, f101, go_sem, HW1.out]) (sp_same (by kernel_rfl) hl hs hS (show (.int .i64 ↑(j + k) : Value) = _ from rfl)) trivial
    refine SSteps.cons (fun a w' vs σ hS hl hs hk => ?_) ?_
    · have e99 : a.tmps.getD 99 undef = (.slice (some ⟨g, 0, none⟩) l.1.length c : Value) := (sk_val hk 3 (by kernel_rfl) rfl rfl).trans ((hk.1 3 (by kernel_rfl)).1)
      have f99 := gd e99
      have e102 : a.tmps.getD 102 undef = (.int .i64 ↑(j + k) : Value) := (sk_val hk 6 (by kernel_rfl) rfl rfl).trans ((hk.1 6 (by kernel_rfl)).1)
      have f102 := gd e102
      exact rs_run (wanted_none rfl) (exec_slice rfl (by simp [Act.eval, e99, f99, e102, f102]) (by simp [Act.eval, e99, f99, e102, f102]; try rfl) (by simp [Act.eval, e99, f99, e102, f102]; try rfl) (run_from w' (some ⟨g, 0, none⟩) l.1.length c (j + k) (by omega) (by omega) (fun h => by cases h) (by omega))) (sp_same (by kernel_rfl) hl hs hS (show (.slice (tailA (some ⟨g, 0, none⟩) c (j + k)) (l.1.length - (j + k)) (c - (j + k)) : Value) = _ from rfl))
    refine SSteps.cons (fun a w' vs σ hS hl hs hk => ?_) ?_
    · have e98 : a.tmps.getD 98 undef = (.slice (tailA (some ⟨g, 0, none⟩) c j) (l.1.length - j) (c - j) : Value) := (sk_val hk 2 (by kernel_rfl) rfl rfl).trans ((hk.1 2 (by kernel_rfl)).1)
      have f98 := gd e98
      have e103 : a.tmps.getD 103 undef = (.slice (tailA (some ⟨g, 0, none⟩) c (j + k)) (l.1.length - (j + k)) (c - (j + k)) : Value) := (sk_val hk 7 (by kernel_rfl) rfl rfl).trans ((hk.1 7 (by kernel_rfl)).1)
      have f103 := gd e103
      have h0 : σ[0]? = some (.cells (.slice (some ⟨g, 0, none⟩) l.1.length c) (brk (j + k) (brk j l.1))) := hs 0 (by decide)
      obtain ⟨W, hr, hW⟩ := run_copyO hS (sg h0) (j) (j + k) (cols - (j + k)) (tailA (some ⟨g, 0, none⟩) c j) (tailA (some ⟨g, 0, none⟩) c (j + k)) (l.1.length - j) (c - j) (l.1.length - (j + k)) (c - (j + k)) (by show min (l.1.length - (j + k)) (l.1.length - j) = _; omega) (by rw [brk_length, brk_length]; omega) (by rw [brk_length, brk_length]; omega) (fun hp => ⟨tailA_at (by omega), tailA_at (by omega)⟩) 3
      exact rs_run (wanted_none rfl) (exec_copy rfl (by simp only [Act.eval]; exact e98) (by simp only [Act.eval]; exact e103) hr) (sp_set 0 _ (by kernel_rfl) (by simp) (by decide) hl hs (by rfl) hW trivial)
    exact SSteps.nil
  · intro vs w' hS hv
    have q0 := (show vs 0 = (.slice (some ⟨g, 0, none⟩) l.1.length c : Value) from hv 0 (by decide))
    have q1 := (show vs 1 = (.int .i64 ↑j : Value) from hv 1 (by decide))
    have q2 := (show vs 2 = (.slice (tailA (some ⟨g, 0, none⟩) c j) (l.1.length - j) (c - j) : Value) from hv 2 (by decide))
    have q3 := (show vs 3 = (.slice (some ⟨g, 0, none⟩) l.1.length c : Value) from hv 3 (by decide))
    have q4 := (show vs 4 = (.int .i64 ↑j : Value) from hv 4 (by decide))
    have q5 := (show vs 5 = (.int .i64 ↑k : Value) from hv 5 (by decide))
    have q6 := (show vs 6 = (.int .i64 ↑(j + k) : Value) from hv 6 (by decide))
    have q7 := (show vs 7 = (.slice (tailA (some ⟨g, 0, none⟩) c (j + k)) (l.1.length - (j + k)) (c - (j + k)) : Value) from hv 7 (by decide))
    have S2 := Lib.hid hS
    simp only [putL, Act.put, Nat.zero_add, Nat.reduceAdd, List.setIfInBounds_toArray, List.set_cons_succ, List.set_cons_zero, q0, q1, q2, q3, q4, q5, q6, q7]
    clear hS hv q0 q1 q2 q3 q4 q5 q6 q7
    clear S5
    have S6 := S2
    clear S2
    have HCL := Lib.hid (show ((brk (j + k) (brk j l.1)).take j ++ (((brk (j + k) (brk j l.1)).drop (j + k)).take (cols - (j + k)) ++ (brk (j + k) (brk j l.1)).drop (j + (cols - (j + k))))).length = cols by simp only [List.length_append, List.length_take, List.length_drop, brk_length]; omega)
    go_upto_region 22 with (fail)
    refine wp_region_stage (w0 := w0) (os := os) (by kernel_rfl) (by kernel_rfl) (by kernel_rfl) [(0, 9, [], fun vs => .cells (.slice (some ⟨g, 0, none⟩) l.1.length c) (wipeC (cols - k) (l.1.length - (cols - k)) q ((brk (j + k) (brk j l.1)).take j ++ (((brk (j + k) (brk j l.1)).drop (j + k)).take (cols - (j + k)) ++ (brk (j + k) (brk j l.1)).drop (j + (cols - (j + k)))))))] [[], [], [], [], [2], [], [], [], [3], [0]] [.cells (.slice (some ⟨g, 0, none⟩) l.1.length c) ((brk (j + k) (brk j l.1)).take j ++ (((brk (j + k) (brk j l.1)).drop (j + k)).take (cols - (j + k)) ++ (brk (j + k) (brk j l.1)).drop (j + (cols - (j + k))))), .linesx (.slice (some ⟨gr, 0, none⟩) L.length cr) L i (.slice (some ⟨g, 0, none⟩) l.1.length c), .box p 35 #[.int .i64 ↑cols, .slice (some ⟨gr, 0, none⟩) L.length cr], .box b9 29 (pv q)] (fun i u => match i with | 0 => u = (.slice (some ⟨g, 0, none⟩) l.1.length c : Value) | 1 => u = (.pointer (some ⟨p, 0, none⟩) : Value) | 2 => u = (.pointer (some ⟨p, 0, none⟩) : Value) | 3 => u = (.pointer (some ⟨p, 0, none⟩) : Value) | 4 => u = (.int .i64 ↑cols : Value) | 5 => u = (.int .i64 ↑k : Value) | 6 => u = (.int .i64 ↑(cols - k) : Value) | 7 => u = (.slice (tailA (some ⟨g, 0, none⟩) c (cols - k)) (l.1.length - (cols - k)) (c - (cols - k)) : Value) | 8 => u = (.agg (pv q) : Value) | 9 => u = (.tuple #[] : Value) | _ => True) (fun vs => [.cells (.slice (some ⟨g, 0, none⟩) l.1.length c) (wipeC (cols - k) (l.1.length - (cols - k)) q ((brk (j + k) (brk j l.1)).take j ++ (((brk (j + k) (brk j l.1)).drop (j + k)).take (cols - (j + k)) ++ (brk (j + k) (brk j l.1)).drop (j + (cols - (j + k)))))), .linesx (.slice (some ⟨gr, 0, none⟩) L.length cr) L i (.slice (some ⟨g, 0, none⟩) l.1.length c), .box p 35 #[.int .i64 ↑cols, .slice (some ⟨gr, 0, none⟩) L.length cr], .box b9 29 (pv q)]) (by kernel_rfl) (fun vs => by rfl) S6.out ?_ ?_
    · refine SSteps.cons (fun a w' vs σ hS hl hs hk => ?_) ?_
      · have e12 : a.tmps.getD 12 undef = (.slice (some ⟨g, 0, none⟩) l.1.length c : Value) := (sk_old hk 12 (by kernel_rfl)).trans rfl
        have f12 := gd e12
        exact ro_pure (v := .slice (some ⟨g, 0, none⟩) l.1.length c) (wanted_none rfl) (by simp [execOp, Act.eval, e12, f12, go_sem]) (sp_same (by kernel_rfl) hl hs hS (show (.slice (some ⟨g, 0, none⟩) l.1.length c : Value) = _ from rfl)) trivial
      refine SSteps.cons (fun a w' vs σ hS hl hs hk => ?_) ?_
      · have e0 : a.tmps.getD 0 undef = (.pointer (some ⟨p, 0, none⟩) : Value) := (sk_old hk 0 (by kernel_rfl)).trans rfl
        have f0 := gd e0
        exact ro_pure (v := .pointer (some ⟨p, 0, none⟩)) (wanted_none rfl) (by simp [execOp, Act.eval, e0, f0, go_sem]) (sp_same (by kernel_rfl) hl hs hS (show (.pointer (some ⟨p, 0, none⟩) : Value) = _ from rfl)) trivial
      refine SSteps.cons (fun a w' vs σ hS hl hs hk => ?_) ?_
      · have e106 : a.tmps.getD 106 undef = (.pointer (some ⟨p, 0, none⟩) : Value) := (sk_val hk 1 (by kernel_rfl) rfl rfl).trans ((hk.1 1 (by kernel_rfl)).1)
        have f106 := gd e106
        exact ro_pure (v := .pointer (some ⟨p, 0, none⟩)) (wanted_none rfl) (by simp [execOp, Act.eval, e106, f106, go_sem]) (sp_same (by kernel_rfl) hl hs hS (show (.pointer (some ⟨p, 0, none⟩) : Value) = _ from rfl)) trivial
      refine SSteps.cons (fun a w' vs σ hS hl hs hk => ?_) ?_
      · have e107 : a.tmps.getD 107 undef = (.pointer (some ⟨p, 0, none⟩) : Value) := (sk_val hk 2 (by kernel_rfl) rfl rfl).trans ((hk.1 2 (by kernel_rfl)).1)
        have f107 := gd e107
        exact ro_pure (v := .pointer (some ⟨p, 0, none⟩)) (wanted_none rfl) (by simp [execOp, Act.eval, e107, f107, go_sem]) (sp_same (by kernel_rfl) hl hs hS (show (.pointer (some ⟨p, 0, none⟩) : Value) = _ from rfl)) trivial
      refine SSteps.cons (fun a w' vs σ hS hl hs hk => ?_) ?_
      · have e108 : a.tmps.getD 108 undef = (.pointer (some ⟨p, 0, none⟩) : Value) := (sk_val hk 3 (by kernel_rfl) rfl rfl).trans ((hk.1 3 (by kernel_rfl)).1)
        have f108 := gd e108
        have hx := (hS.box (sg (hs 2 (by decide)))).cell
        exact ro_pure (v := .int .i64 ↑cols) (wanted_none rfl) (by simp [execOp, Act.eval, e108, f108, go_sem, hx]) (sp_same (by kernel_rfl) hl hs hS (show (.int .i64 ↑cols : Value) = _ from rfl)) trivial
      refine SSteps.cons (fun a w' vs σ hS hl hs hk => ?_) ?_
      · have e15 : a.tmps.getD 15 undef = (.int .i64 ↑k : Value) := (sk_old hk 15 (by kernel_rfl)).trans rfl
        have f15 := gd e15
        exact ro_pure (v := .int .i64 ↑k) (wanted_none rfl) (by simp [execOp, Act.eval, e15, f15, go_sem]) (sp_same (by kernel_rfl) hl hs hS (show (.int .i64 ↑k : Value) = _ from rfl)) trivial
      refine SSteps.cons (fun a w' vs σ hS hl hs hk => ?_) ?_
      · have e109 : a.tmps.getD 109 undef = (.int .i64 ↑cols : Value) := (sk_val hk 4 (by kernel_rfl) rfl rfl).trans ((hk.1 4 (by kernel_rfl)).1)
        have f109 := gd e109
        have e110 : a.tmps.getD 110 undef = (.int .i64 ↑k : Value) := (sk_val hk 5 (by kernel_rfl) rfl rfl).trans ((hk.1 5 (by kernel_rfl)).1)
        have f110 := gd e110
        exact ro_pure (v := .int .i64 ↑(cols - k)) (wanted_none rfl) (by simp [execOp, Act.eval, e109, f109, e110, f110, go_sem, HW2.out]) (sp_same (by kernel_rfl) hl hs hS (show (.int .i64 ↑(cols - k) : Value) = _ from rfl)) trivial
      refine SSteps.cons (fun a w' vs σ hS hl hs hk => ?_) ?_
      · have e105 : a.tmps.getD 105 undef = (.slice (some ⟨g, 0, none⟩) l.1.length c : Value) := (sk_val hk 0 (by kernel_rfl) rfl rfl).trans ((hk.1 0 (by kernel_rfl)).1)
        have f105 := gd e105
        have e111 : a.tmps.getD 111 undef = (.int .i64 ↑(cols - k) : Value) := (sk_val hk 6 (by kernel_rfl) rfl rfl).trans ((hk.1 6 (by kernel_rfl)).1)
        have f111 := gd e111
        exact rs_run (wanted_none rfl) (exec_slice rfl (by simp [Act.eval, e105, f105, e111, f111]) (by simp [Act.eval, e105, f105, e111, f111]; try rfl) (by simp [Act.eval, e105, f105, e111, f111]; try rfl) (run_from w' (some ⟨g, 0, none⟩) l.1.length c (cols - k) (by omega) (by omega) (fun h => by cases h) (by omega))) (sp_same (by kernel_rfl) hl hs hS (show (.slice (tailA (some ⟨g, 0, none⟩) c (cols - k)) (l.1.length - (cols - k)) (c - (cols - k)) : Value) = _ from rfl))
      refine SSteps.cons (fun a w' vs σ hS hl hs hk => ?_) ?_
      · have e9 : a.tmps.getD 9 undef = (.pointer (some ⟨b9, 0, none⟩) : Value) := (sk_old hk 9 (by kernel_rfl)).trans rfl
        have f9 := gd e9
        have hx := (hS.box (sg (hs 3 (by decide)))).penAt
        exact ro_pure (v := .agg (pv q)) (wanted_none rfl) (by simp [execOp, Act.eval, e9, f9, go_sem, hx]) (sp_same (by kernel_rfl) hl hs hS (show (.agg (pv q) : Value) = _ from rfl)) trivial
      refine SSteps.cons (fun a w' vs σ hS hl hs hk => ?_) ?_
      · have e112 : a.tmps.getD 112 undef = (.slice (tailA (some ⟨g, 0, none⟩) c (cols - k)) (l.1.length - (cols - k)) (c - (cols - k)) : Value) := (sk_val hk 7 (by kernel_rfl) rfl rfl).trans ((hk.1 7 (by kernel_rfl)).1)
        have f112 := gd e112
        have e113 : a.tmps.getD 113 undef = (.agg (pv q) : Value) := (sk_val hk 8 (by kernel_rfl) rfl rfl).trans ((hk.1 8 (by kernel_rfl)).1)
        have f113 := gd e113
        have h0 : σ[0]? = some (.cells (.slice (some ⟨g, 0, none⟩) l.1.length c) ((brk (j + k) (brk j l.1)).take j ++ (((brk (j + k) (brk j l.1)).drop (j + k)).take (cols - (j + k)) ++ (brk (j + k) (brk j l.1)).drop (j + (cols - (j + k)))))) := hs 0 (by decide)
        rw [tailA_at (by omega)] at e112
        exact ro_call (f := 84) (wanted_none rfl) rfl (by simp only [List.map_toArray, List.map_cons, List.map_nil, Act.eval, e112, e113] <;> rfl) (fun _ _ => by kernel_rfl) ((front_call hS (sg h0) (fun os1 h => wipe_front g l.1.length c (cols - k) (l.1.length - (cols - k)) (c - (cols - k)) ((brk (j + k) (brk j l.1)).take j ++ (((brk (j + k) (brk j l.1)).drop (j + k)).take (cols - (j + k)) ++ (brk (j + k) (brk j l.1)).drop (j + (cols - (j + k))))) q w0 w' os1 h (by have := HCL.out; omega) (by omega) (by have := HCL.out; omega))).mono fun e w2 ⟨h1, h2⟩ => ⟨_, h1, sp_set 0 _ (by kernel_rfl) (by simp) (by decide) hl hs (by rfl) h2 rfl, trivial⟩)
      exact SSteps.nil
    · intro vs w' hS hv
      have q0 := (show vs 0 = (.slice (some ⟨g, 0, none⟩) l.1.length c : Value) from hv 0 (by decide))
      have q1 := (show vs 1 = (.pointer (some ⟨p, 0, none⟩) : Value) from hv 1 (by decide))
      have q2 := (show vs 2 = (.pointer (some ⟨p, 0, none⟩) : Value) from hv 2 (by decide))
      have q3 := (show vs 3 = (.pointer (some ⟨p, 0, none⟩) : Value) from hv 3 (by decide))
      have q4 := (show vs 4 = (.int .i64 ↑cols : Value) from hv 4 (by decide))
      have q5 := (show vs 5 = (.int .i64 ↑k : Value) from hv 5 (by decide))
      have q6 := (show vs 6 = (.int .i64 ↑(cols - k) : Value) from hv 6 (by decide))
      have q7 := (show vs 7 = (.slice (tailA (some ⟨g, 0, none⟩) c (cols - k)) (l.1.length - (cols - k)) (c - (cols - k)) : Value) from hv 7 (by decide))
      have q8 := (show vs 8 = (.agg (pv q) : Value) from hv 8 (by decide))
      have q9 := (show vs 9 = (.tuple #[] : Value) from hv 9 (by decide))
      have S2 := Lib.hid hS
      simp only [putL, Act.put, Nat.zero_add, Nat.reduceAdd, List.setIfInBounds_toArray, List.set_cons_succ, List.set_cons_zero, q0, q1, q2, q3, q4, q5, q6, q7, q8, q9]
      clear hS hv q0 q1 q2 q3 q4 q5 q6 q7 q8 q9
      have HF := (show Objs w0 w' (_ :: _ :: _ :: _ :: os) from S2.out).closeAt HL.out
      rw [HP.out] at HF
      go_wp2_with fail
      go_ret
      exact ⟨rfl, HF.drop2⟩
end
end Go.Proofs.YtjligfbaljnhnaaDoor

/-
  Stores into a slice of lines: whether a line is soft, a line's cells.
-/
set_option linter.unusedSimpArgs false
set_option linter.unusedVariables false
namespace Go.Proofs.YtjligfbaljnhnaaDoor
open Go.RowKit

theorem hdrs_set0 {bs : List Value} {L : List Ln} (h : bs.length = L.length) {i : Nat} (hi : i < L.length) (b : Value) (l : Ln) : hdrs (bs.set i b) (L.set i l) = ((hdrs bs L).set (i * 2) b).set (i * 2 + 1) (.bool l.2) := by
  induction bs generalizing L i with
  | nil => cases L with | nil => simp at hi | cons a L => simp at h
  | cons x bs ih => cases L with
    | nil => simp at h
    | cons a L => cases i with
      | zero => rfl
      | succ i =>
        simp only [List.set_cons_succ, hdrs_cons]
        rw [ih (by simpa using h) (by simpa using hi), show (i + 1) * 2 = i * 2 + 1 + 1 by omega]
        rfl
section
variable {w0 w : World} {os : List Ob} {L : List Ln} {v b : Value}
/-- The cells of the line that is out are other ones from then on. -/
theorem Objs.storeRow {k j i gr n c : Nat} {v2 : Value} {cs : List Cell} {s : Bool} (hS : Objs w0 w os) (hk : os[k]? = some (.linesx (.slice (some ⟨gr, 0, none⟩) n c) L i b)) (hj : os[j]? = some (.cells v2 cs)) (hkj : k ≠ j) (hs : (L[i]?).map (·.2) = some s) :
    Objs w0 (w.setCell ⟨gr, i * 2, none⟩ v2) ((os.set k (.lines (.slice (some ⟨gr, 0, none⟩) n c) (L.set i (cs, s)))).set j .none) := by
  refine hS.join hk hj hkj (fun F G hF hG hd => ?_)
  obtain ⟨bs, q1, q2, q3⟩ := hF
  obtain rfl : n = L.length := by obtain ⟨A', c', e, -⟩ := own_form q1.own; simp only [Value.slice.injEq] at e; exact e.2.1
  have hi : i < L.length := by rw [← q1.len]; exact (List.getElem?_eq_some_iff.1 q2).1
  have hgr : F gr := (q3 gr).2 (.inl rfl)
  have hchg : Chg (fun x => x = gr) w (w.setCell ⟨gr, i * 2, none⟩ v2) := chg_setCell w ⟨gr, i * 2, none⟩ v2
  obtain ⟨h1, h2⟩ := World.ownsRow.stored q1.own (i * 2) v2
  have hl : L.length * 2 = (hdrs bs L).length := (hdrs_length q1.len).symm
  have hset : (hdrs bs L).set (i * 2) v2 = hdrs (bs.set i v2) (L.set i (cs, s)) := by
    rw [hdrs_set0 q1.len hi]
    have : (hdrs bs L)[i * 2 + 1]? = some (.bool s) := by rw [hdrs_at1 q1.len]; cases hq : L[i]? with
      | none => simp [hq] at hs
      | some l => simp [hq] at hs; simp [hs]
    rw [List.set_comm _ _ (by omega)]
    rw [set_self this]
  refine ⟨LF (.slice (some ⟨gr, 0, none⟩) L.length c) (bs.set i v2) none, fun _ => False, hchg.mono (fun x _ hx => .inl (by rw [hx]; exact hgr)), ⟨bs.set i v2, ⟨by simp [q1.len], ?_, fun m x l _ hx hl2 => ?_, fun m m2 x y z hx hy hxz hyz => ?_⟩, fun _ => Iff.rfl⟩, fun _ hf => hf, fun _ _ hf => hf, fun x hx => ?_, fun _ hf => hf.elim⟩
  · rw [List.length_set, ← hset]
    simpa using h1
  · have hne : ∀ (u : Value) (ds : List Cell), OwnC w 0 u ds → ∀ y, u.ownBlock = some y → ¬ y = gr := fun u ds ho y hy e => own_apart (by decide) q1.own ho rfl (by rw [← e]; exact hy)
    by_cases hm : i = m
    · subst hm
      rw [List.getElem?_set_self (by rw [q1.len]; exact hi)] at hx
      rw [List.getElem?_set_self hi] at hl2
      cases hx; cases hl2
      exact own_chg hG.1 hchg (hne _ _ hG.1)
    · rw [List.getElem?_set_ne hm] at hx hl2
      have ho := q1.rows m x l (by simpa using hm) hx hl2
      exact own_chg ho hchg (hne _ _ ho)
  · by_cases hm : i = m
    · subst hm
      rw [List.getElem?_set_self (by rw [q1.len]; exact hi)] at hx
      cases hx
      by_cases hm2 : i = m2
      · exact hm2
      · rw [List.getElem?_set_ne hm2] at hy
        exact (hd z ((q3 z).2 (.inr ⟨m2, y, by simpa using hm2, hy, hyz⟩)) ((hG.2 z).2 hxz)).elim
    · rw [List.getElem?_set_ne hm] at hx
      by_cases hm2 : i = m2
      · subst hm2
        rw [List.getElem?_set_self (by rw [q1.len]; exact hi)] at hy
        cases hy
        exact (hd z ((q3 z).2 (.inr ⟨m, x, by simpa using hm, hx, hxz⟩)) ((hG.2 z).2 hyz)).elim
      · rw [List.getElem?_set_ne hm2] at hy
        exact q1.dist m m2 x y z hx hy hxz hyz
  · rcases hx with hx | ⟨m, y, _, hy, hyx⟩
    · exact .inl ((q3 x).2 (.inl hx))
    · by_cases hm : i = m
      · subst hm
        rw [List.getElem?_set_self (by rw [q1.len]; exact hi)] at hy
        cases hy
        exact .inr (.inl ((hG.2 x).2 hyx))
      · rw [List.getElem?_set_ne hm] at hy
        exact .inl ((q3 x).2 (.inr ⟨m, y, by simpa using hm, hy, hyx⟩))
/-- A line of a slice of lines is soft, or not, from then on. -/
theorem Objs.storeSoft {k i gr n c : Nat} {l : Ln} {s : Bool} (hS : Objs w0 w os) (hk : os[k]? = some (.lines (.slice (some ⟨gr, 0, none⟩) n c) L)) (hl : L[i]? = some l) :
    Objs w0 (w.setCell ⟨gr, i * 2 + 1, none⟩ (.bool s)) (os.set k (.lines (.slice (some ⟨gr, 0, none⟩) n c) (L.set i (l.1, s)))) := by
  refine hS.upd hk (fun F hF => ?_)
  obtain ⟨bs, q1, q3⟩ := hF
  obtain rfl : n = L.length := by obtain ⟨A', c', e, -⟩ := own_form q1.own; simp only [Value.slice.injEq] at e; exact e.2.1
  have hi : i < L.length := (List.getElem?_eq_some_iff.1 hl).1
  have hib : i < bs.length := by rw [q1.len]; exact hi
  have hchg : Chg (fun x => x = gr) w (w.setCell ⟨gr, i * 2 + 1, none⟩ (.bool s)) := chg_setCell w ⟨gr, i * 2 + 1, none⟩ (.bool s)
  obtain ⟨h1, h2⟩ := World.ownsRow.stored q1.own (i * 2 + 1) (.bool s)
  have hset : (hdrs bs L).set (i * 2 + 1) (.bool s) = hdrs bs (L.set i (l.1, s)) := by
    have hb : bs.set i bs[i] = bs := set_self (by simp [hib])
    have := hdrs_set0 q1.len hi bs[i] (l.1, s)
    rw [hb] at this
    rw [this, set_self (l := hdrs bs L) (k := i * 2) (by rw [hdrs_at0 q1.len]; simp [hib])]
  refine ⟨F, hchg.mono (fun x _ hx => (q3 x).2 (.inl (by rw [hx]; rfl))), ⟨bs, ⟨by simp [q1.len], ?_, fun m x y _ hx hy => ?_, q1.dist⟩, q3⟩, fun b hb => .inl hb⟩
  · rw [List.length_set, ← hset]
    simpa using h1
  · have hne : ∀ (u : Value) (ds : List Cell), OwnC w 0 u ds → ∀ y, u.ownBlock = some y → ¬ y = gr := fun u ds ho y hy e => own_apart (by decide) q1.own ho rfl (by rw [← e]; exact hy)
    by_cases hm : i = m
    · subst hm
      rw [List.getElem?_set_self hi] at hy
      cases hy
      have ho := q1.rows i x l (by simp) hx hl
      exact own_chg ho hchg (hne _ _ ho)
    · rw [List.getElem?_set_ne hm] at hy
      have ho := q1.rows m x y (by simp) hx hy
      exact own_chg ho hchg (hne _ _ ho)
end
end Go.Proofs.YtjligfbaljnhnaaDoor

/-
  Clear and Shift of the reference's grid.
-/
set_option linter.unusedSimpArgs false
set_option linter.unusedVariables false
namespace Go.Proofs.YtjligfbaljnhnaaDoor
open Go.RowKit

/-- What lies ahead of a column is as it was, when a row is broken behind it. -/
theorem brk_take {j m : Nat} {cs : List Cell} (h : j < m) : (brk m cs).take j = cs.take j := by
  cases m with
  | zero => rfl
  | succ m =>
    rw [brk_succ]
    split
    · rw [List.take_set_of_le (by omega), List.take_set_of_le (by omega)]
    · rfl
theorem brk_idem (m : Nat) (cs : List Cell) : brk m (brk m cs) = brk m cs := by
  cases m with
  | zero => rfl
  | succ m =>
    by_cases h : m + 1 < cs.length ∧ (cAt cs m).width = 2
    · have e : brk (m + 1) cs = (cs.set m (blank (cAt cs m).pen)).set (m + 1) (blank (cAt cs (m + 1)).pen) := by rw [brk_succ, if_pos h]
      have e2 : (cAt (brk (m + 1) cs) m).width = 1 := by
        rw [e]
        have : m < cs.length := by omega
        simp [cAt, List.getElem?_set_ne, List.getElem?_set_self, this, blank]
      rw [brk_succ m (brk (m + 1) cs), if_neg (by rw [e2]; simp)]
    · have e : brk (m + 1) cs = cs := by rw [brk_succ, if_neg h]
      rw [e, e]
theorem brk_take2 {j m : Nat} {cs : List Cell} (h : j ≤ m) : (brk m (brk j cs)).take j = (brk j cs).take j := by
  rcases Nat.lt_or_ge j m with h' | h'
  · exact brk_take h'
  · obtain rfl : j = m := by omega
    rw [brk_idem]
theorem run_appN {w0 w : World} {os : List Ob} {v : Value} {cs ds : List Cell} {k n : Nat} (hS : Objs w0 w os) (hk : os[k]? = some (.cells v cs)) {A : Option Addr} {c : Nat} (hr : RdC w A c ds) (hn : n = ds.length) (hlen : cs.length + ds.length ≤ 1000000) (ty : TypeId) :
    ∃ v' w', (Builtin.append_ #[52, 52] ty #[v, .slice A n c]).run Tryd.prog w = .ok v' w' ∧ Objs w0 w' (os.set k (.cells v' (cs ++ ds))) ∧ ∃ A' n' c', v' = .slice A' n' c' := by
  subst hn
  obtain ⟨v', w', h1, h2, A', c', h3⟩ := run_appO hS hk hr hlen ty
  exact ⟨v', w', h1, h2, A', _, c', h3⟩
theorem break_k {A : Option Addr} {n0 cap c k : Nat} {cs : List Cell} {n : Int} {w0 w : World} {os : List Ob} (hS : Objs w0 w os) (hk : os[k]? = some (.cells (.slice A n0 cap) cs)) (hn0 : n0 = cs.length) (hn : n = (c : Int)) (hlen : cs.length ≤ 1000000) (hc : c ≤ 2000000) :
    Calls Tryd.prog 88 #[.slice A n0 cap, .int .i64 n] w fun e w' => e = .returned (.tuple #[]) ∧ Objs w0 w' (os.set k (.cells (.slice A n0 cap) (brk c cs))) :=
  front_call hS hk (fun os1 h => break_at h hn0 hn hlen hc)
@[go_sem] theorem run_fieldL (A : Option Addr) (n c : Nat) (b : Bool) (w : World) : (Instr.field 71 (.agg #[.slice A n c, .bool b]) 0).run Tryd.prog w = .ok (.slice A n c) w := by kernel_rfl
section
variable {w0 w : World} {os : List Ob} {p cols : Nat} {L : List Ln}
set_option maxRecDepth 100000 in
set_option maxHeartbeats 4000000 in
theorem r14Clear_yes {i f t : Nat} {l : Ln} (q : Pen) (hS : Objs w0 w (.grid p 48 cols L :: os)) (hc : 0 < cols) (hcm : cols ≤ 1000) (hl : L[i]? = some l) (hrow : l.1.length = cols) (hft : f < t) (ht : t ≤ cols) :
    Calls Tryd.prog 76 #[.pointer (some ⟨p, 0, none⟩), .int .i64 i, .int .i64 f, .int .i64 t, .agg (pv q)] w fun e w' => e = .returned (.tuple #[]) ∧ Objs w0 w' (.grid p 48 cols (L.set i (clearC f t q l.1, l.2)) :: os) := by
  have S := Lib.hid hS
  have hi : i < L.length := (List.getElem?_eq_some_iff.1 hl).1
  have HL := Lib.hid hl
  have HROW := Lib.hid hrow
  have hlr : l.1.length ≤ 1000 := by omega
  have hlr2 : cols ≤ l.1.length := by omega
  have hlr3 : l.1.length ≤ cols := by omega
  have HP := Lib.hid (show clearC f t q l.1 = wipeC f (t - f) q (brk t (brk f l.1)) from if_pos hft)
  clear hS hl hrow
  have S2 := Lib.hid (S.out.alloc1 (c1 := pv q) (t1 := 29))
  clear S
  go_enter Tryd.func76, Tryd.ntmps76
  obtain ⟨v, b, hS3⟩ := S2.out.swap.openAt HL.out
  obtain ⟨A, c, rfl, hrd⟩ := hS3.cellsRd (k := 0) rfl
  have hnc : l.1.length ≤ c := hrd.1
  obtain ⟨g, rfl, -, -, -, -⟩ := (hS3.own (k := 0) rfl).head (by omega)
  obtain ⟨gr, cr, rfl, h1, h2, h3, h4, h5, h6, h7⟩ := hS3.linesxRd (k := 1) rfl
  obtain ⟨hx2, hf2, hz2⟩ := (hS3.box (k := 2) rfl).facts
  have hlen2 : L.length ≤ 9223372036854775807 := by unfold maxLen at h2; omega
  have S3 := Lib.hid hS3
  clear hS3 h1 h2 h6 hrd
  go_wp2_with fail
  refine (break_at (c := f) S3.out rfl rfl (by omega) (by omega)).mono ?_
  rintro e w4 ⟨rfl, hS4⟩
  have S4 := Lib.hid hS4
  clear hS4 hx2 hf2 hz2 h4 h5 h7
  go_wp2_with fail
  refine (break_at (c := t) S4.out (by rw [brk_length]) rfl (by rw [brk_length]; omega) (by omega)).mono ?_
  rintro e w5 ⟨rfl, hS5⟩
  have S5 := Lib.hid hS5
  clear hS5
  generalize w.heap.size = b9 at S5 ⊢
  go_wp2_with fail
  go_loopw [11] (fun x wr => ∃ k : Nat, f + k ≤ t ∧ x = .int .i64 ((f + k : Nat) : Int) ∧ Objs w0 wr (.cells (.slice (some ⟨g, 0, none⟩) l.1.length c) (wipeC f k q (brk t (brk f l.1))) :: .linesx (.slice (some ⟨gr, 0, none⟩) L.length cr) L i (.slice (some ⟨g, 0, none⟩) l.1.length c) :: .box p 48 #[.int .i64 ↑cols, .slice (some ⟨gr, 0, none⟩) L.length cr] :: .box b9 29 (pv q) :: os)) (fun x _ => t - (intOf x).toNat)
  case atStart => exact ⟨0, by omega, rfl, by rw [wipeC_zero]; exact S5.out⟩
  case round =>
    obtain ⟨k, hk, rfl, hS⟩ := hrel
    have S6 := Lib.hid hS
    clear hS
    by_cases hlt : f + k < t
    · obtain ⟨hx3, hf3, hz3, hp3⟩ := (S6.out.box (k := 3) rfl).pbox
      go_wp2_with fail
      refine (pure_call (r14Blank_any _ _) S6.out).mono ?_
      rintro e w7 ⟨rfl, hS7⟩
      obtain ⟨W, hst, ho, hg⟩ := (hS7.own (k := 0) rfl).putAt (k := f + k) (by rw [wipeC_length (by rw [brk_length, brk_length]; omega), brk_length, brk_length]; omega) (blank q)
      rw [wipeC_succ (by rw [brk_length, brk_length]; omega)] at ho
      have S8 := Lib.hid (hS7.cellsUpd (k := 0) rfl ho hg)
      clear hS7 ho hg hx3 hf3 hz3 hp3
      go_wp2_with fail
      go_roundw
      case rel => exact ⟨k + 1, by omega, by go_num, S8.out⟩
      case measure => simp [intOf]; omega
    · have hkt : k = t - f := by omega
      have HK := Lib.hid hkt
      clear hkt
      have HF := S6.out.closeAt HL.out
      rw [HK.out, ← HP.out] at HF
      go_wp2_with fail
      go_end0
      exact ⟨rfl, HF.drop2⟩
set_option maxRecDepth 100000 in
set_option maxHeartbeats 4000000 in
theorem r14Clear_none {i f t : Nat} {l : Ln} (q : Pen) (hS : Objs w0 w (.grid p 48 cols L :: os)) (hc : 0 < cols) (hcm : cols ≤ 1000) (hl : L[i]? = some l) (hrow : l.1.length = cols) (hft : t ≤ f) :
    Calls Tryd.prog 76 #[.pointer (some ⟨p, 0, none⟩), .int .i64 i, .int .i64 f, .int .i64 t, .agg (pv q)] w fun e w' => e = .returned (.tuple #[]) ∧ Objs w0 w' (.grid p 48 cols L :: os) := by
  have S := Lib.hid hS
  have hi : i < L.length := (List.getElem?_eq_some_iff.1 hl).1
  have HL := Lib.hid hl
  have HROW := Lib.hid hrow
  have hlr : l.1.length ≤ 1000 := by omega
  have hlr2 : cols ≤ l.1.length := by omega
  have hlr3 : l.1.length ≤ cols := by omega
  clear hS hl hrow
  have S2 := Lib.hid (S.out.alloc1 (c1 := pv q) (t1 := 29))
  clear S
  obtain ⟨A, c, hB, hm, hr⟩ := S2.out.gridRd (k := 1) rfl
  have hlen : L.length ≤ 9223372036854775807 := by have := hr.1; unfold maxLen at hm; omega
  obtain ⟨hx0, hf0, hz0⟩ := hB.facts
  obtain ⟨b, off, A', c', rfl, hz1, hc1, hc2, hrd⟩ := hr.at_ HL.out
  clear hB hm hr hrd
  go_enter Tryd.func76, Tryd.ntmps76
  go_wp2_with fail
  refine bodyPost_ret (results_none rfl _ _ _) rfl ?_
  exact ⟨rfl, S2.out.tail⟩
set_option maxRecDepth 100000 in
set_option maxHeartbeats 4000000 in
theorem r14Shift_right {i j k : Nat} {l : Ln} (q : Pen) (hS : Objs w0 w (.grid p 48 cols L :: os)) (hc : 0 < cols) (hcm : cols ≤ 1000) (hl : L[i]? = some l) (hrow : l.1.length = cols) (n : Int) (hj : j < cols) (hn : 0 < n) (hn2 : n ≤ 9223372036854775807) (hk : (k : Int) = min n ((cols - j : Nat) : Int)) :
    Calls Tryd.prog 77 #[.pointer (some ⟨p, 0, none⟩), .int .i64 i, .int .i64 j, .int .i64 n, .agg (pv q)] w fun e w' => e = .returned (.tuple #[]) ∧ Objs w0 w' (.grid p 48 cols (L.set i (shiftR j k q l.1, l.2)) :: os) := by
  have S := Lib.hid hS
  have hi : i < L.length := (List.getElem?_eq_some_iff.1 hl).1
  have HL := Lib.hid hl
  have HROW := Lib.hid hrow
  have hlr : l.1.length ≤ 1000 := by omega
  have hlr2 : cols ≤ l.1.length := by omega
  have hlr3 : l.1.length ≤ cols := by omega
  have hkj : j + k ≤ cols := by omega
  have hk1 : 1 ≤ k := by omega
  have hn0 : (n == 0) = false := by simp; omega
  have hmin : min n ((cols : Int) - j) = (k : Int) := by omega
  have HP := Lib.hid (show (brk j l.1).take j ++ List.replicate k (blank q) ++ ((brk (cols - k) (brk j l.1)).drop j).take (cols - k - j) = shiftR j k q l.1 by
    unfold shiftR
    rw [hrow]
    have e : ((brk (cols - k) (brk j l.1)).take j) = (brk j l.1).take j := brk_take2 (by omega)
    simp only [e, List.append_assoc])
  clear hk
  clear hS hl hrow
  have S2 := Lib.hid (S.out.alloc1 (c1 := pv q) (t1 := 29))
  clear S
  go_enter Tryd.func77, Tryd.ntmps77
  obtain ⟨v, b, hS3⟩ := S2.out.swap.openAt HL.out
  obtain ⟨A, c, rfl, hrd⟩ := hS3.cellsRd (k := 0) rfl
  have hnc : l.1.length ≤ c := hrd.1
  obtain ⟨g, rfl, -, -, -, -⟩ := (hS3.own (k := 0) rfl).head (by omega)
  obtain ⟨gr, cr, rfl, h1, h2, h3, h4, h5, h6, h7⟩ := hS3.linesxRd (k := 1) rfl
  obtain ⟨hx2, hf2, hz2⟩ := (hS3.box (k := 2) rfl).facts
  have hlen2 : L.length ≤ 9223372036854775807 := by unfold maxLen at h2; omega
  have S3 := Lib.hid hS3
  clear hS3 h1 h2 h6 hrd
  go_wp2_with fail
  refine (break_at (c := j) S3.out rfl rfl (by omega) (by omega)).mono ?_
  rintro e w4 ⟨rfl, hS4⟩
  have hru := run_upto w4 (some ⟨g, 0, none⟩) l.1.length c j (by omega) (by omega) (fun h => by cases h) (by omega)
  have hlj : j = ((brk j l.1).take j).length := by rw [List.length_take, brk_length]; omega
  obtain ⟨v5, w5, hr5, hS5, A5, n5, c5, rfl⟩ := run_appN hS4.nilCells (k := 0) rfl ((hS4.cellsRd' (k := 0) rfl).2.upto j) hlj (by simp; omega) 52
  rw [List.nil_append] at hS5
  obtain ⟨hx5, hf5, hz5⟩ := (hS5.box (k := 3) rfl).facts
  have S5 := Lib.hid hS5
  clear hS4 hS5 hlj hx2 hf2 hz2 h4 h5 h7
  generalize w.heap.size = b9 at S5 ⊢
  go_wp2_with (at_builtin; refine wpList_app _ _ (wanted_none rfl) rfl rfl rfl hr5 ?_)
  refine (break_k S5.out (k := 1) (n := (cols : Int) - k) (c := cols - k) rfl (by rw [brk_length]) (by omega) (by rw [brk_length]; omega) (by omega)).mono ?_
  rintro e w6 ⟨rfl, hS6⟩
  have S6 := Lib.hid hS6
  obtain ⟨hx9, hf9, hz9, hp9⟩ := (hS6.box (k := 4) rfl).pbox
  clear hS6 hru hr5 hx5 hf5 hz5 hmin
  go_wp2_with fail
  refine (r14Blanks_any k (by omega) q w0 _ _ S6.out).mono ?_
  rintro e w7 ⟨vb, rfl, hS7⟩
  obtain ⟨Ab, cb, hvb, hrb⟩ := hS7.cellsRd (k := 0) rfl
  rw [List.length_replicate] at hvb
  subst hvb
  obtain ⟨v8, w8, hr8, hS8, A8, n8, c8, rfl⟩ := run_appN hS7 (k := 1) rfl hrb (List.length_replicate ..).symm (by simp only [List.length_append, List.length_take, List.length_drop, List.length_replicate, brk_length]; omega) 52
  go_upto_region 10 with (at_builtin; refine wpList_app _ _ (wanted_none rfl) rfl rfl rfl hr8 ?_)
  clear hr8 hx9 hf9 hz9 hp9
  obtain ⟨hx8, hf8, hz8⟩ := (hS8.box (k := 4) rfl).facts
  have hrm : (Instr.slice 52 (.slice (some ⟨g, 0, none⟩) l.1.length c) (some (.int .i64 j)) (some (.int .i64 ((cols : Int) - k))) none).run Tryd.prog w8 = .ok (.slice (some ⟨g, j * 16, none⟩) (cols - k - j) (c - j)) w8 := by
    rw [show (cols : Int) - k = ((cols - k : Nat) : Int) by omega]
    exact run_mid w8 g l.1.length c j (cols - k) (by omega) (by omega) (by omega) (by omega) (by omega)
  have hrd9 := ((hS8.cellsRd' (k := 2) rfl).2.from j (by rw [brk_length, brk_length]; omega)).upto (cols - k - j)
  rw [tailA_at (by omega)] at hrd9
  have hl9 : cols - k - j = (((brk (cols - k) (brk j l.1)).drop j).take (cols - k - j)).length := by rw [List.length_take, List.length_drop, brk_length, brk_length]; omega
  obtain ⟨v9, w9, hr9, hS9, A9, n9, c9, rfl⟩ := run_appN hS8 (k := 1) rfl hrd9 hl9 (by simp [brk_length]; omega) 52
  obtain ⟨hx10, hf10, hz10⟩ := (hS9.box (k := 4) rfl).facts
  obtain ⟨gr2, cr2, e2, -, -, -, hz11, hx11, -, hf11⟩ := hS9.linesxRd (k := 3) rfl
  cases e2
  have S9 := Lib.hid hS9
  clear hS7 hrb hS8 hrd9 hl9 hS9 S5 S6 S3
  go_upto_region 17 with (at_builtin; refine wpList_app _ _ (wanted_none rfl) rfl rfl rfl hr9 ?_)
  clear hr9 hrm
  have hs := (show (L[i]?).map (·.2) = some l.2 by rw [HL.out]; rfl)
  have HF := (((((((((S9.out.storeRow (k := 3) (j := 1) rfl rfl (by decide) hs).lift (k := 3) rfl).closeGrid (k := 4) rfl).lift (k := 4) rfl).del 1).del 1).del 1).del 1).del 1).del 1
  clear hs
  rw [HP.out] at HF
  go_wp2_with fail
  go_end0
  exact ⟨rfl, HF⟩
set_option maxRecDepth 100000 in
set_option maxHeartbeats 4000000 in
theorem r14Shift_left1 {i j k : Nat} {l : Ln} (q : Pen) (hS : Objs w0 w (.grid p 48 cols L :: os)) (hc : 0 < cols) (hcm : cols ≤ 1000) (hl : L[i]? = some l) (hrow : l.1.length = cols) (hj : j < cols) (hk1 : 1 ≤ k) (hk2 : j + k < cols) :
    Calls Tryd.prog 77 #[.pointer (some ⟨p, 0, none⟩), .int .i64 i, .int .i64 j, .int .i64 (-(k : Int)), .agg (pv q)] w fun e w' => e = .returned (.tuple #[]) ∧ Objs w0 w' (.grid p 48 cols (L.set i (shiftL j k q l.1, l.2)) :: os) := by
  have S := Lib.hid hS
  have hi : i < L.length := (List.getElem?_eq_some_iff.1 hl).1
  have HL := Lib.hid hl
  have HROW := Lib.hid hrow
  have hlr : l.1.length ≤ 1000 := by omega
  have hlr2 : cols ≤ l.1.length := by omega
  have hlr3 : l.1.length ≤ cols := by omega
  have hkj : j + k ≤ cols := by omega
  have hk1 : 1 ≤ k := by omega
  have hn0 : ((-(k : Int)) == 0) = false := by simp; omega
  have hng : ¬ (0 < -(k : Int)) := by omega
  have hcmp : -((cols : Int) - j) < -(k : Int) := by omega
  have HP := Lib.hid (show (brk j l.1).take j ++ (brk (j + k) (brk j l.1)).drop (j + k) ++ List.replicate k (blank q) = shiftL j k q l.1 by
    unfold shiftL
    have e : ((brk (j + k) (brk j l.1)).take j) = (brk j l.1).take j := brk_take2 (by omega)
    simp only [e, List.append_assoc])
  clear hS hl hrow
  have S2 := Lib.hid (S.out.alloc1 (c1 := pv q) (t1 := 29))
  clear S
  go_enter Tryd.func77, Tryd.ntmps77
  obtain ⟨v, b, hS3⟩ := S2.out.swap.openAt HL.out
  obtain ⟨A, c, rfl, hrd⟩ := hS3.cellsRd (k := 0) rfl
  have hnc : l.1.length ≤ c := hrd.1
  obtain ⟨g, rfl, -, -, -, -⟩ := (hS3.own (k := 0) rfl).head (by omega)
  obtain ⟨gr, cr, rfl, h1, h2, h3, h4, h5, h6, h7⟩ := hS3.linesxRd (k := 1) rfl
  obtain ⟨hx2, hf2, hz2⟩ := (hS3.box (k := 2) rfl).facts
  have hlen2 : L.length ≤ 9223372036854775807 := by unfold maxLen at h2; omega
  have S3 := Lib.hid hS3
  clear hS3 h1 h2 h6 hrd
  go_wp2_with fail
  refine (break_at (c := j) S3.out rfl rfl (by omega) (by omega)).mono ?_
  rintro e w4 ⟨rfl, hS4⟩
  have hru := run_upto w4 (some ⟨g, 0, none⟩) l.1.length c j (by omega) (by omega) (fun h => by cases h) (by omega)
  have hlj : j = ((brk j l.1).take j).length := by rw [List.length_take, brk_length]; omega
  obtain ⟨v5, w5, hr5, hS5, A5, n5, c5, rfl⟩ := run_appN hS4.nilCells (k := 0) rfl ((hS4.cellsRd' (k := 0) rfl).2.upto j) hlj (by simp; omega) 52
  rw [List.nil_append] at hS5
  obtain ⟨hx5, hf5, hz5⟩ := (hS5.box (k := 3) rfl).facts
  have S5 := Lib.hid hS5
  clear hS4 hS5 hlj hx2 hf2 hz2 h4 h5 h7
  generalize w.heap.size = b9 at S5 ⊢
  go_wp2_with (at_builtin; refine wpList_app _ _ (wanted_none rfl) rfl rfl rfl hr5 ?_)
  refine (break_k S5.out (k := 1) (c := j + k) rfl (by rw [brk_length]) (by omega) (by rw [brk_length]; omega) (by omega)).mono ?_
  rintro e w6 ⟨rfl, hS6⟩
  have hrm : (Instr.slice 52 (.slice (some ⟨g, 0, none⟩) l.1.length c) (some (.int .i64 ((j : Int) + k))) none none).run Tryd.prog w6 = .ok (.slice (tailA (some ⟨g, 0, none⟩) c (j + k)) (l.1.length - (j + k)) (c - (j + k))) w6 := by
    rw [show (j : Int) + k = ((j + k : Nat) : Int) by omega]
    exact run_from w6 (some ⟨g, 0, none⟩) l.1.length c (j + k) (by omega) (by omega) (fun h => by cases h) (by omega)
  have hl9 : l.1.length - (j + k) = ((brk (j + k) (brk j l.1)).drop (j + k)).length := by rw [List.length_drop, brk_length, brk_length]
  obtain ⟨v9, w9, hr9, hS9, A9, n9, c9, rfl⟩ := run_appN hS6 (k := 0) rfl ((hS6.cellsRd' (k := 1) rfl).2.from (j + k) (by rw [brk_length, brk_length]; omega)) hl9 (by simp [brk_length]; omega) 52
  have S6 := Lib.hid hS9
  obtain ⟨hx9, hf9, hz9, hp9⟩ := (hS9.box (k := 4) rfl).pbox
  clear hS6 hS9 hl9 hru hr5 hx5 hf5 hz5 hcmp hng hn0
  go_upto_region 16 with (at_builtin; refine wpList_app _ _ (wanted_none rfl) rfl rfl rfl hr9 ?_)
  clear hr9 hrm
  go_wp2_with fail
  refine (r14Blanks_any k (by omega) q w0 _ _ S6.out).mono ?_
  rintro e w7 ⟨vb, rfl, hS7⟩
  obtain ⟨Ab, cb, hvb, hrb⟩ := hS7.cellsRd (k := 0) rfl
  rw [List.length_replicate] at hvb
  subst hvb
  obtain ⟨v8, w8, hr8, hS8, A8, n8, c8, rfl⟩ := run_appN hS7 (k := 1) rfl hrb (List.length_replicate ..).symm (by simp only [List.length_append, List.length_take, List.length_drop, List.length_replicate, brk_length]; omega) 52
  go_upto_region 17 with (at_builtin; refine wpList_app _ _ (wanted_none rfl) rfl rfl rfl hr8 ?_)
  clear hr8 hx9 hf9 hz9 hp9
  obtain ⟨hx10, hf10, hz10⟩ := (hS8.box (k := 4) rfl).facts
  obtain ⟨gr2, cr2, e2, -, -, -, hz11, hx11, -, hf11⟩ := hS8.linesxRd (k := 3) rfl
  cases e2
  have S9 := Lib.hid hS8
  clear hS7 hrb hS8 S5 S6 S3
  have hs := (show (L[i]?).map (·.2) = some l.2 by rw [HL.out]; rfl)
  have HF := (((((((((S9.out.storeRow (k := 3) (j := 1) rfl rfl (by decide) hs).lift (k := 3) rfl).closeGrid (k := 4) rfl).lift (k := 4) rfl).del 1).del 1).del 1).del 1).del 1).del 1
  clear hs
  rw [HP.out] at HF
  go_wp2_with fail
  go_end0
  exact ⟨rfl, HF⟩
set_option maxRecDepth 100000 in
set_option maxHeartbeats 4000000 in
theorem r14Shift_left2 {i j k : Nat} {l : Ln} (q : Pen) (hS : Objs w0 w (.grid p 48 cols L :: os)) (hc : 0 < cols) (hcm : cols ≤ 1000) (hl : L[i]? = some l) (hrow : l.1.length = cols) (n : Int) (hj : j < cols) (hk3 : j + k = cols) (hn : n ≤ -(k : Int)) (hn2 : -9223372036854775808 ≤ n) :
    Calls Tryd.prog 77 #[.pointer (some ⟨p, 0, none⟩), .int .i64 i, .int .i64 j, .int .i64 n, .agg (pv q)] w fun e w' => e = .returned (.tuple #[]) ∧ Objs w0 w' (.grid p 48 cols (L.set i (shiftL j k q l.1, l.2)) :: os) := by
  have S := Lib.hid hS
  have hi : i < L.length := (List.getElem?_eq_some_iff.1 hl).1
  have HL := Lib.hid hl
  have HROW := Lib.hid hrow
  have hlr : l.1.length ≤ 1000 := by omega
  have hlr2 : cols ≤ l.1.length := by omega
  have hlr3 : l.1.length ≤ cols := by omega
  have hkj : j + k ≤ cols := by omega
  have hk1 : 1 ≤ k := by omega
  have hn0 : (n == 0) = false := by simp; omega
  have hng : ¬ (0 < n) := by omega
  have hcmp : ¬ (-((cols : Int) - j) < n) := by omega
  have hck : (cols : Int) - j = k := by omega
  have hk4 : cols ≤ j + k := by omega
  clear hk3
  have HP := Lib.hid (show (brk j l.1).take j ++ (brk (j + k) (brk j l.1)).drop (j + k) ++ List.replicate k (blank q) = shiftL j k q l.1 by
    unfold shiftL
    have e : ((brk (j + k) (brk j l.1)).take j) = (brk j l.1).take j := brk_take2 (by omega)
    simp only [e, List.append_assoc])
  clear hS hl hrow
  have S2 := Lib.hid (S.out.alloc1 (c1 := pv q) (t1 := 29))
  clear S
  go_enter Tryd.func77, Tryd.ntmps77
  obtain ⟨v, b, hS3⟩ := S2.out.swap.openAt HL.out
  obtain ⟨A, c, rfl, hrd⟩ := hS3.cellsRd (k := 0) rfl
  have hnc : l.1.length ≤ c := hrd.1
  obtain ⟨g, rfl, -, -, -, -⟩ := (hS3.own (k := 0) rfl).head (by omega)
  obtain ⟨gr, cr, rfl, h1, h2, h3, h4, h5, h6, h7⟩ := hS3.linesxRd (k := 1) rfl
  obtain ⟨hx2, hf2, hz2⟩ := (hS3.box (k := 2) rfl).facts
  have hlen2 : L.length ≤ 9223372036854775807 := by unfold maxLen at h2; omega
  have S3 := Lib.hid hS3
  clear hS3 h1 h2 h6 hrd
  go_wp2_with fail
  refine (break_at (c := j) S3.out rfl rfl (by omega) (by omega)).mono ?_
  rintro e w4 ⟨rfl, hS4⟩
  have hru := run_upto w4 (some ⟨g, 0, none⟩) l.1.length c j (by omega) (by omega) (fun h => by cases h) (by omega)
  have hlj : j = ((brk j l.1).take j).length := by rw [List.length_take, brk_length]; omega
  obtain ⟨v5, w5, hr5, hS5, A5, n5, c5, rfl⟩ := run_appN hS4.nilCells (k := 0) rfl ((hS4.cellsRd' (k := 0) rfl).2.upto j) hlj (by simp; omega) 52
  rw [List.nil_append] at hS5
  obtain ⟨hx5, hf5, hz5⟩ := (hS5.box (k := 3) rfl).facts
  have S5 := Lib.hid hS5
  clear hS4 hS5 hlj hx2 hf2 hz2 h4 h5 h7
  generalize w.heap.size = b9 at S5 ⊢
  go_wp2_with (at_builtin; refine wpList_app _ _ (wanted_none rfl) rfl rfl rfl hr5 ?_)
  refine (break_k S5.out (k := 1) (c := j + k) rfl (by rw [brk_length]) (by omega) (by rw [brk_length]; omega) (by omega)).mono ?_
  rintro e w6 ⟨rfl, hS6⟩
  have hrm : (Instr.slice 52 (.slice (some ⟨g, 0, none⟩) l.1.length c) (some (.int .i64 ((j : Int) + k))) none none).run Tryd.prog w6 = .ok (.slice (tailA (some ⟨g, 0, none⟩) c (j + k)) (l.1.length - (j + k)) (c - (j + k))) w6 := by
    rw [show (j : Int) + k = ((j + k : Nat) : Int) by omega]
    exact run_from w6 (some ⟨g, 0, none⟩) l.1.length c (j + k) (by omega) (by omega) (fun h => by cases h) (by omega)
  have hl9 : l.1.length - (j + k) = ((brk (j + k) (brk j l.1)).drop (j + k)).length := by rw [List.length_drop, brk_length, brk_length]
  obtain ⟨v9, w9, hr9, hS9, A9, n9, c9, rfl⟩ := run_appN hS6 (k := 0) rfl ((hS6.cellsRd' (k := 1) rfl).2.from (j + k) (by rw [brk_length, brk_length]; omega)) hl9 (by simp [brk_length]; omega) 52
  have S6 := Lib.hid hS9
  obtain ⟨hx9, hf9, hz9, hp9⟩ := (hS9.box (k := 4) rfl).pbox
  clear hS6 hS9 hl9 hru hr5 hx5 hf5 hz5 hcmp hng hn0
  go_upto_region 16 with (at_builtin; refine wpList_app _ _ (wanted_none rfl) rfl rfl rfl hr9 ?_)
  clear hr9 hrm
  go_wp2_with fail
  refine (r14Blanks_any k (by omega) q w0 _ _ S6.out).mono ?_
  rintro e w7 ⟨vb, rfl, hS7⟩
  obtain ⟨Ab, cb, hvb, hrb⟩ := hS7.cellsRd (k := 0) rfl
  rw [List.length_replicate] at hvb
  subst hvb
  obtain ⟨v8, w8, hr8, hS8, A8, n8, c8, rfl⟩ := run_appN hS7 (k := 1) rfl hrb (List.length_replicate ..).symm (by simp only [List.length_append, List.length_take, List.length_drop, List.length_replicate, brk_length]; omega) 52
  go_upto_region 17 with (at_builtin; refine wpList_app _ _ (wanted_none rfl) rfl rfl rfl hr8 ?_)
  clear hr8 hx9 hf9 hz9 hp9
  obtain ⟨hx10, hf10, hz10⟩ := (hS8.box (k := 4) rfl).facts
  obtain ⟨gr2, cr2, e2, -, -, -, hz11, hx11, -, hf11⟩ := hS8.linesxRd (k := 3) rfl
  cases e2
  have S9 := Lib.hid hS8
  clear hS7 hrb hS8 S5 S6 S3
  have hs := (show (L[i]?).map (·.2) = some l.2 by rw [HL.out]; rfl)
  have HF := (((((((((S9.out.storeRow (k := 3) (j := 1) rfl rfl (by decide) hs).lift (k := 3) rfl).closeGrid (k := 4) rfl).lift (k := 4) rfl).del 1).del 1).del 1).del 1).del 1).del 1
  clear hs
  rw [HP.out] at HF
  go_wp2_with fail
  go_end0
  exact ⟨rfl, HF⟩
set_option maxRecDepth 100000 in
set_option maxHeartbeats 4000000 in
theorem r14Shift_none {i j : Nat} {l : Ln} (q : Pen) (n : Int) (hS : Objs w0 w (.grid p 48 cols L :: os)) (hc : 0 < cols) (hcm : cols ≤ 1000) (hl : L[i]? = some l) (hrow : l.1.length = cols) (hn : n = 0) :
    Calls Tryd.prog 77 #[.pointer (some ⟨p, 0, none⟩), .int .i64 i, .int .i64 j, .int .i64 n, .agg (pv q)] w fun e w' => e = .returned (.tuple #[]) ∧ Objs w0 w' (.grid p 48 cols L :: os) := by
  have S := Lib.hid hS
  have hi : i < L.length := (List.getElem?_eq_some_iff.1 hl).1
  have HL := Lib.hid hl
  have HROW := Lib.hid hrow
  have hlr : l.1.length ≤ 1000 := by omega
  have hlr2 : cols ≤ l.1.length := by omega
  have hlr3 : l.1.length ≤ cols := by omega
  clear hS hl hrow
  subst hn
  have S2 := Lib.hid (S.out.alloc1 (c1 := pv q) (t1 := 29))
  clear S
  obtain ⟨A, c, hB, hm, hr⟩ := S2.out.gridRd (k := 1) rfl
  have hlen : L.length ≤ 9223372036854775807 := by have := hr.1; unfold maxLen at hm; omega
  obtain ⟨hx0, hf0, hz0⟩ := hB.facts
  obtain ⟨b, off, A', c', rfl, hz1, hc1, hc2, hrd⟩ := hr.at_ HL.out
  clear hB hm hr hrd
  go_enter Tryd.func77, Tryd.ntmps77
  go_wp2_with fail
  refine bodyPost_ret (results_none rfl _ _ _) rfl ?_
  exact ⟨rfl, S2.out.tail⟩
end
end Go.Proofs.YtjligfbaljnhnaaDoor

/-
  Lines of a grid: copies of all its rows.
-/
set_option linter.unusedSimpArgs false
set_option linter.unusedVariables false
namespace Go.Proofs.YtjligfbaljnhnaaDoor
open Go.RowKit

section
variable {w0 w : World} {os : List Ob}
theorem Objs.linesRd' (h : Objs w0 w os) {A : Option Addr} {n c k : Nat} {L : List Ln} (hk : os[k]? = some (.lines (.slice A n c) L)) : n = L.length ∧ c ≤ maxLen ∧ RdL w A c L := by
  obtain ⟨A', c', e, h1, h2⟩ := h.linesRd hk
  simp only [Value.slice.injEq] at e
  obtain ⟨rfl, e2, rfl⟩ := e
  exact ⟨e2, h1, h2⟩
theorem Objs.lowerNew {x o o' : Ob} {k : Nat} (hk : os[k]? = some o) (h : Objs w0 w (x :: o' :: os.set k .none)) : Objs w0 w (x :: os.set k o') := by
  have h1 := h.move (i := 1) (j := k + 2) (o := o') rfl (by simpa using set_none_get hk) (by omega)
  have h2 := h1.del 1
  simpa [List.set_set] using h2
theorem front_new {P : Program} {f : FuncId} {args : Array Value} {k : Nat} {o o' : Ob} {r : Value → Value} {nw : Value → Ob} (hS : Objs w0 w os) (hk : os[k]? = some o)
    (hc : ∀ os1, Objs w0 w (o :: os1) → Calls P f args w fun e w' => ∃ v, e = .returned (r v) ∧ Objs w0 w' (nw v :: o' :: os1)) : Calls P f args w fun e w' => ∃ v, e = .returned (r v) ∧ Objs w0 w' (nw v :: os.set k o') :=
  (hc _ (hS.lift hk)).mono fun e w' ⟨v, h1, h2⟩ => ⟨v, h1, h2.lowerNew hk⟩
end
section
variable {ops : Array Oper} {rest : List Oper} {o : Oper} {a : Act} {w : World} {Q : Exit → Act → World → Prop}
theorem wpList_bsl (hw : Region.wanted o (yielded ops a.tmps) = true) (x0 : Operand) (ho : o.op = .buildSlice 33 1 #[(0, x0)]) {v : Value} {s : Bool} (h0 : a.eval x0 = .agg #[v, .bool s])
    (h : wpList Tryd.prog ops Q rest (a.put o.dst (.slice (some ⟨w.heap.size, 0, none⟩) 1 1)) (w.alloc (.cells #[v, .bool s] 71))) : wpList Tryd.prog ops Q (o :: rest) a w :=
  wpList_run hw (exec_bsl ho (by simp [h0]) (run_bsl v s w)) h
end
section
variable {w0 w : World} {os : List Ob} {p cols : Nat} {L : List Ln}
set_option maxRecDepth 100000 in
set_option maxHeartbeats 2000000 in
theorem Lines_front (hS : Objs w0 w (.grid p 35 cols L :: os)) (hc : 0 < cols) (hn : ∀ l ∈ L, l.1.length ≤ 1000000) (hL : L.length ≤ 1000000) :
    Calls Tryd.prog 22 #[.pointer (some ⟨p, 0, none⟩)] w fun e w' => ∃ v, e = .returned v ∧ Objs w0 w' (.lines v L :: .grid p 35 cols L :: os) := by
  have S := Lib.hid hS
  have HN := Lib.hid hn
  clear hS hn
  go_enter Tryd.func22, Tryd.ntmps22
  go_wp2_with fail
  refine (none_no S.out (k := 0) rfl hc).mono ?_
  rintro e w1 ⟨rfl, hS⟩
  obtain ⟨vG, hS1⟩ := hS.openGrid (k := 0) rfl
  obtain ⟨A, c, rfl, hcm, -⟩ := hS1.linesRd (k := 0) rfl
  obtain ⟨hx0, hf0, hz0⟩ := (hS1.box (k := 1) rfl).facts
  have S1 := Lib.hid hS1
  clear hS hS1 S hcm
  go_wp2_with fail
  go_loopw [3, 5, 13] (fun v _ x wr => ∃ n : Nat, n ≤ L.length ∧ x = .int .i64 n ∧ Objs w0 wr (.lines v (L.take n) :: .lines (.slice A L.length c) L :: .box p 35 #[.int .i64 cols, .slice A L.length c] :: os)) (fun _ _ x _ => L.length - (intOf x).toNat)
  case atStart => exact ⟨0, Nat.zero_le _, rfl, S1.out.nilLines⟩
  case round =>
    obtain ⟨n, hnl, rfl, hS⟩ := hrel
    by_cases hlt : n < L.length
    · have hl : L[n]? = some L[n] := by simp [hlt]
      obtain ⟨b, off, A', c', rfl, hz1, hc1, hc2, hrd⟩ := (hS.linesRd' (k := 1) rfl).2.2.at_ hl
      have HRD := Lib.hid hrd
      have S2 := Lib.hid hS
      have HL := Lib.hid hl
      clear hrd hS hl
      go_wp2_with fail
      refine (lineCopy_any A' c' L[n].1 L[n].2 _ (HRD.out.alloc _) (HN.out _ (List.getElem_mem hlt))).mono ?_
      rintro e w2 ⟨v2, rfl, ho, hb⟩
      have hS3 := (S2.out.alloc1.newCells hb ho).alloc1 (c1 := #[v2, .bool L[n].2]) (t1 := 71)
      obtain ⟨v5, w5, hr5, hS5, A5, c5, hv5⟩ := run_appL hS3 (k := 3) (j := 1) (ad := ⟨w2.heap.size, 0, none⟩) (c := 1) (s := L[n].2) rfl rfl (by decide) (by rw [(hS3.box (k := 0) rfl).cell]; rfl) (by rw [add_at, (hS3.box (k := 0) rfl).cell]; rfl) (by simp; omega) 33
      have htk : L.take n ++ [(L[n].1, L[n].2)] = L.take (n + 1) := by rw [List.take_succ_eq_append_getElem hlt]
      rw [htk] at hS5
      have S5 := Lib.hid (((hS5.del 0).del 0).del 0)
      have HV := Lib.hid hv5
      clear hS3 hS5 htk hv5 ho hb hz1 hc1 hc2
      go_wp2_with (first | (refine wpList_bsl (wanted_none rfl) _ rfl (v := v2) (s := L[n].2) rfl ?_) | (at_builtin; refine wpList_app _ _ (wanted_none rfl) rfl rfl rfl hr5 ?_))
      go_roundw
      case rel => exact ⟨n + 1, by omega, by go_num, S5.out⟩
      case measure => simp [intOf]; omega
    · have hnn : L.take n = L := List.take_of_length_le (by omega)
      rw [hnn] at hS
      have S6 := Lib.hid (((hS.lift (k := 1) rfl).closeGrid (k := 2) rfl).del 1)
      clear hS hnn
      go_wp2_with fail
      go_ret
      exact ⟨_, rfl, S6.out⟩
theorem Lines_any {k : Nat} (hS : Objs w0 w os) (hk : os[k]? = some (.grid p 35 cols L)) (hc : 0 < cols) (hn : ∀ l ∈ L, l.1.length ≤ 1000000) (hL : L.length ≤ 1000000) :
    Calls Tryd.prog 22 #[.pointer (some ⟨p, 0, none⟩)] w fun e w' => ∃ v, e = .returned v ∧ Objs w0 w' (.lines v L :: os) :=
  (front_new (r := id) (nw := fun v => .lines v L) (o' := .grid p 35 cols L) hS hk (fun os1 h => Lines_front h hc hn hL)).mono fun e w' ⟨v, h1, h2⟩ => ⟨v, h1, by rw [set_self hk] at h2; exact h2⟩
end
end Go.Proofs.YtjligfbaljnhnaaDoor
