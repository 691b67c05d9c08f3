/-
  line.Fit and the reference's.
-/
import Derived.Test.YtmfhepjmmpnkaaaDoorLine4
set_option linter.unusedSimpArgs false
set_option linter.unusedVariables false
namespace Go.Proofs.YtmfhepjmmpnkaaaDoor
open Go.RowKit

def Sr.line (B : Nat) (cs : List Cell) (s : Bool) : Sr := ⟨fun u w => ∃ v, u = .agg #[v, .bool s] ∧ OwnC w B v cs, fun _ _ _ ⟨v, h1, h2⟩ hb => ⟨v, h1, h2.bel hb⟩⟩
def Sr.box (B g : Nat) (cs : List Cell) (s : Bool) : Sr := ⟨fun _ w => ∃ v, Blk w g 59 #[v, .bool s] ∧ OwnC w B v cs, fun _ _ _ ⟨v, h1, h2⟩ hb => ⟨v, h1.bel hb, h2.bel hb⟩⟩
theorem fit_eq (n : Nat) (cs : List Cell) : fixL (cs.take (min n cs.length)) ++ empties (n - min n cs.length) = fitTo n cs := by
  unfold fitTo
  rw [show cs.take (min n cs.length) = cs.take n from ?_, show n - min n cs.length = n - cs.length by omega]
  rcases Nat.le_total n cs.length with h | h
  · rw [Nat.min_eq_left h]
  · rw [Nat.min_eq_right h, List.take_of_length_le h, List.take_of_length_le (Nat.le_refl _)]
theorem fix_take (A : Option Addr) (c : Nat) (cs : List Cell) (m : Nat) (w : World) (ha : RdC w A c cs) (hn : cs.length ≤ 100000) (hm : m ≤ cs.length) : Calls Tryd.prog 26 #[.slice A m c] w (OwnEnd (fixL (cs.take m)) w) := by
  have := cellFix_any A c (cs.take m) w (ha.upto _) (by simp; omega)
  rw [show (cs.take m).length = m by simp; omega] at this
  exact this
def fitOf (n : Int) (cs : List Cell) (s : Bool) : List Cell × Bool × Int := if lineOk cs = true ∧ 0 ≤ n ∧ n ≤ 1000 then (fitTo n.toNat cs, s, 0) else ([], false, 2)
set_option maxRecDepth 100000 in
set_option maxHeartbeats 2000000 in
theorem lineFit_yes (A : Option Addr) (c : Nat) (cs : List Cell) (s : Bool) (n : Nat) (hn2 : n ≤ 1000) (w : World) (ht : Tabs w) (ha : RdC w A c cs) (hn : cs.length ≤ 100000) (hv : lineOk cs = true) :
    Calls Tryd.prog 60 #[.agg #[.slice A cs.length c, .bool s], .int .i64 n] w (LineEnd (fitTo n cs) s 0 w) := by
  have HT := Lib.hid ht
  have HA0 := Lib.hid ha
  have HV := Lib.hid hv
  clear ha ht hv
  go_enter Tryd.func60, Tryd.ntmps60
  go_wp2_with fail
  refine (lvalid_is HV.out _ _ _ _ ((HT.out.bel (belA _ _)).bel (belA _ _)) ((HA0.out.alloc _).alloc _) (by omega)).mono ?_
  rintro e W ⟨rfl, hb⟩
  obtain ⟨k0, k1, hb1⟩ := box2 hb
  have K0 := Lib.hid k0
  have K1 := Lib.hid k1
  have HB := Lib.hid hb1
  have HZ := Lib.hid (show w.heap.size + 2 ≤ W.heap.size by have := k1.lt; omega)
  obtain ⟨hx0, hf0, hz0⟩ := k0.facts
  clear hb k0 k1 hb1
  go_upto_region 4 with (fail)
  clear hx0 hf0 hz0
  rw [show (if cs.length < n then (cs.length : Int) else (n : Int)) = ((min n cs.length : Nat) : Int) by split <;> omega]
  refine wp_region_multi (by kernel_rfl) (by kernel_rfl) (by kernel_rfl) (fun i => if i = 4 then some 9 else if i = 8 then some 9 else none) (fun i k h => ?_) (fun b => w.heap.size + 1 ≤ b) [Sr.val (.pointer (some ⟨w.heap.size, 0, none⟩)), Sr.val (.slice A cs.length c), Sr.val (.int .i64 ((min n cs.length : Nat) : Int)), Sr.val (.slice A (min n cs.length) c), Sr.own (w.heap.size + 2) (fixL (cs.take (min n cs.length))), Sr.val (.int .i64 n), Sr.val (.int .i64 ((min n cs.length : Nat) : Int)), Sr.val (.int .i64 ((n - min n cs.length : Nat) : Int)), Sr.own (w.heap.size + 2) (empties (n - min n cs.length)), Sr.own (w.heap.size + 2) (fitTo n cs), Sr.val (.pointer (some ⟨w.heap.size, 1, none⟩)), Sr.val (.bool s), Sr.line (w.heap.size + 2) (fitTo n cs) s, Sr.box (w.heap.size + 2) (w.heap.size + 1) (fitTo n cs) s, Sr.val (.int .i64 0)] [(9, (fun b => w.heap.size + 2 ≤ b)), (13, (fun b => b = w.heap.size + 1))] [(13, (fun wz => Blk wz (w.heap.size + 1) 59 #[.slice none 0 0, .bool false]))] (fun p hp b hb hs => by simp only [List.mem_cons, List.not_mem_nil, or_false] at hp; rcases hp with rfl | rfl <;> (simp only at hs; omega)) (fun p hp => by simp only [List.mem_cons, List.not_mem_nil, or_false] at hp; subst hp; exact K1.out) (fun p hp w1 w2 h hb => by simp only [List.mem_cons, List.not_mem_nil, or_false] at hp; subst hp; exact Blk.bel h hb) (fun p hp q hq hne w1 w2 h hb => by simp only [List.mem_cons, List.not_mem_nil, or_false] at hp hq; subst hp; rcases hq with rfl | rfl <;> first | exact absurd rfl hne | exact Blk.chg h hb (show ¬ w.heap.size + 2 ≤ w.heap.size + 1 by omega)) ?_ ?_ ?_
  · (repeat' split at h) <;> first | (cases h; decide) | cases h
  · intro q hq
    simp only [List.mem_cons, List.not_mem_nil, or_false] at hq
    rcases hq with rfl | rfl
    · intro i v w1 w2 h1 h2 h3 h hc
      match i with
      | 0 => exact h
      | 1 => exact h
      | 2 => exact h
      | 3 => exact h
      | 4 => exact absurd rfl h2
      | 5 => exact h
      | 6 => exact h
      | 7 => exact h
      | 8 => exact absurd rfl h2
      | 9 => exact absurd rfl h1
      | 10 => exact h
      | 11 => exact h
      | 12 => exact absurd rfl (h3 _ rfl ⟨9, .data⟩ (by simp) rfl)
      | 13 => exact absurd rfl (h3 _ rfl ⟨9, .phase⟩ (by simp) rfl)
      | 14 => exact h
      | k + 15 => exact h
    · intro i v w1 w2 h1 h2 h3 h hc
      match i with
      | 0 => exact h
      | 1 => exact h
      | 2 => exact h
      | 3 => exact h
      | 4 => exact own_chg h hc (fun b hb he => by have := own_from h b hb; have he' : b = w.heap.size + 1 := he; omega)
      | 5 => exact h
      | 6 => exact h
      | 7 => exact h
      | 8 => exact own_chg h hc (fun b hb he => by have := own_from h b hb; have he' : b = w.heap.size + 1 := he; omega)
      | 9 => exact own_chg h hc (fun b hb he => by have := own_from h b hb; have he' : b = w.heap.size + 1 := he; omega)
      | 10 => exact h
      | 11 => exact h
      | 12 => exact (by obtain ⟨v', h5, h6⟩ := h; exact ⟨v', h5, own_chg h6 hc (fun b hb he => by have := own_from h6 b hb; have he' : b = w.heap.size + 1 := he; omega)⟩)
      | 13 => exact absurd rfl h1
      | 14 => exact h
      | k + 15 => exact h
  · refine RSteps.cons (fun a w' hc hp hk => ?_) ?_
    · have e2 : a.tmps.getD 2 undef = (.pointer (some ⟨w.heap.size, 0, none⟩) : Value) := (rk_same hk 2 (by kernel_rfl)).trans rfl
      have f2 := gd e2
      exact ro_pure (v := .pointer (some ⟨w.heap.size, 0, none⟩)) (wanted_none rfl) (by simp [execOp, Act.eval, e2, f2, go_sem]) rfl (Chg.refl _ _)
    refine RSteps.cons (fun a w' hc hp hk => ?_) ?_
    · have e24 : a.tmps.getD 24 undef = (.pointer (some ⟨w.heap.size, 0, none⟩) : Value) := (rk_at hk (e := ⟨0, .data⟩) (by simp) rfl rfl rfl)
      have f24 := gd e24
      have hx := (K0.out.chg hc (show ¬ w.heap.size + 1 ≤ w.heap.size by omega)).cell
      exact ro_pure (v := .slice A cs.length c) (wanted_none rfl) (by simp [execOp, Act.eval, e24, f24, go_sem, hx]) rfl (Chg.refl _ _)
    refine RSteps.cons (fun a w' hc hp hk => ?_) ?_
    · have e6 : a.tmps.getD 6 undef = (.int .i64 ((min n cs.length : Nat) : Int) : Value) := (rk_same hk 6 (by kernel_rfl)).trans rfl
      have f6 := gd e6
      exact ro_pure (v := .int .i64 ((min n cs.length : Nat) : Int)) (wanted_none rfl) (by simp [execOp, Act.eval, e6, f6, go_sem]) rfl (Chg.refl _ _)
    refine RSteps.cons (fun a w' hc hp hk => ?_) ?_
    · have e25 : a.tmps.getD 25 undef = (.slice A cs.length c : Value) := (rk_at hk (e := ⟨1, .data⟩) (by simp) rfl rfl rfl)
      have f25 := gd e25
      have e26 : a.tmps.getD 26 undef = (.int .i64 ((min n cs.length : Nat) : Int) : Value) := (rk_at hk (e := ⟨2, .data⟩) (by simp) rfl rfl rfl)
      have f26 := gd e26
      exact ro_pure (v := .slice A (min n cs.length) c) (wanted_none rfl) (by simp [execOp, Act.eval, e25, f25, e26, f26, go_sem, run_upto w' A cs.length c (min n cs.length) (Nat.min_le_right _ _) (HA0.out.chgNew (B := 0) ((Chg.of_below HB.out _).trans hc (fun _ _ h => h)) (fun b hb he => by omega)).1 (HA0.out.chgNew (B := 0) ((Chg.of_below HB.out _).trans hc (fun _ _ h => h)) (fun b hb he => by omega)).2.1 (by omega)]) rfl (Chg.refl _ _)
    refine RSteps.cons (fun a w' hc hp hk => ?_) ?_
    · have e27 : a.tmps.getD 27 undef = (.slice A (min n cs.length) c : Value) := (rk_at hk (e := ⟨3, .data⟩) (by simp) rfl rfl rfl)
      have f27 := gd e27
      exact ro_call (wanted_none rfl) rfl (by simp only [List.map_toArray, List.map_cons, List.map_nil, Act.eval, e27]) (fun _ _ => by kernel_rfl) ((fix_take A c cs (min n cs.length) w' (HA0.out.chgNew (B := 0) ((Chg.of_below HB.out _).trans hc (fun _ _ h => h)) (fun b hb he => by omega)) (by omega) (Nat.min_le_right _ _)).mono fun e w2 ⟨v, h1, h2, h3⟩ => ⟨v, h1, h2.low (by have := hc.size; have := HZ.out; omega), Chg.of_below h3 _⟩)
    refine RSteps.cons (fun a w' hc hp hk => ?_) ?_
    · have e1 : a.tmps.getD 1 undef = (.int .i64 n : Value) := (rk_same hk 1 (by kernel_rfl)).trans rfl
      have f1 := gd e1
      exact ro_pure (v := .int .i64 n) (wanted_none rfl) (by simp [execOp, Act.eval, e1, f1, go_sem]) rfl (Chg.refl _ _)
    refine RSteps.cons (fun a w' hc hp hk => ?_) ?_
    · have e6 : a.tmps.getD 6 undef = (.int .i64 ((min n cs.length : Nat) : Int) : Value) := (rk_same hk 6 (by kernel_rfl)).trans rfl
      have f6 := gd e6
      exact ro_pure (v := .int .i64 ((min n cs.length : Nat) : Int)) (wanted_none rfl) (by simp [execOp, Act.eval, e6, f6, go_sem]) rfl (Chg.refl _ _)
    refine RSteps.cons (fun a w' hc hp hk => ?_) ?_
    · have e29 : a.tmps.getD 29 undef = (.int .i64 n : Value) := (rk_at hk (e := ⟨5, .data⟩) (by simp) rfl rfl rfl)
      have f29 := gd e29
      have e30 : a.tmps.getD 30 undef = (.int .i64 ((min n cs.length : Nat) : Int) : Value) := (rk_at hk (e := ⟨6, .data⟩) (by simp) rfl rfl rfl)
      have f30 := gd e30
      exact ro_pure (v := .int .i64 ((n - min n cs.length : Nat) : Int)) (wanted_none rfl) (by simp [execOp, Act.eval, e29, f29, e30, f30, go_sem, show ((n - min n cs.length : Nat) : Int) = (n : Int) - ((min n cs.length : Nat) : Int) by omega, IntWalk.i64_in ((n : Int) - ((min n cs.length : Nat) : Int)) (by omega)]) rfl (Chg.refl _ _)
    refine RSteps.cons (fun a w' hc hp hk => ?_) ?_
    · have e31 : a.tmps.getD 31 undef = (.int .i64 ((n - min n cs.length : Nat) : Int) : Value) := (rk_at hk (e := ⟨7, .data⟩) (by simp) rfl rfl rfl)
      have f31 := gd e31
      exact ro_call (wanted_none rfl) rfl (by simp only [List.map_toArray, List.map_cons, List.map_nil, Act.eval, e31]) (fun _ _ => by kernel_rfl) ((lineEmpties_any (n - min n cs.length) (by omega) w').mono fun e w2 ⟨v, h1, h2, h3⟩ => ⟨v, h1, h2.low (by have := hc.size; have := HZ.out; omega), Chg.of_below h3 _⟩)
    refine RSteps.cons (fun a w' hc hp hk => ?_) ?_
    · obtain h28 : OwnC w' (w.heap.size + 2) (a.tmps.getD 28 undef) (fixL (cs.take (min n cs.length))) := (rk_at hk (e := ⟨4, .data⟩) (by simp) rfl rfl rfl)
      obtain h32 : OwnC w' (w.heap.size + 2) (a.tmps.getD 32 undef) (empties (n - min n cs.length)) := (rk_at hk (e := ⟨8, .data⟩) (by simp) rfl rfl rfl)
      obtain ⟨A9, c9, e32, hr9⟩ := h32.form
      exact ro_app (wanted_none rfl) _ _ rfl (w.heap.size + 2) (a.tmps.getD 28 undef) (fixL (cs.take (min n cs.length))) rfl h28 A9 c9 (empties (n - min n cs.length)) e32 hr9 (by rw [fixL_length]; simp [empties]; omega) (by have := hc.size; have := HZ.out; omega) (fun v' w2 hown hg hat => ⟨by rw [fit_eq] at hown; exact hown, Chg.of_grown hg _ (fun k hk => own_from h28 k hk)⟩)
    refine RSteps.cons (fun a w' hc hp hk => ?_) ?_
    · have e2 : a.tmps.getD 2 undef = (.pointer (some ⟨w.heap.size, 0, none⟩) : Value) := (rk_same hk 2 (by kernel_rfl)).trans rfl
      have f2 := gd e2
      exact ro_pure (v := .pointer (some ⟨w.heap.size, 1, none⟩)) (wanted_none rfl) (by simp [execOp, Act.eval, e2, f2, go_sem]) rfl (Chg.refl _ _)
    refine RSteps.cons (fun a w' hc hp hk => ?_) ?_
    · have e34 : a.tmps.getD 34 undef = (.pointer (some ⟨w.heap.size, 1, none⟩) : Value) := (rk_at hk (e := ⟨10, .data⟩) (by simp) rfl rfl rfl)
      have f34 := gd e34
      have hx := (K0.out.chg hc (show ¬ w.heap.size + 1 ≤ w.heap.size by omega)).cell
      exact ro_pure (v := .bool s) (wanted_none rfl) (by simp [execOp, Act.eval, e34, f34, go_sem, hx]) rfl (Chg.refl _ _)
    refine RSteps.cons (fun a w' hc hp hk => ?_) ?_
    · have e35 : a.tmps.getD 35 undef = (.bool s : Value) := (rk_at hk (e := ⟨11, .data⟩) (by simp) rfl rfl rfl)
      have f35 := gd e35
      obtain hown : OwnC w' (w.heap.size + 2) (a.tmps.getD 33 undef) (fitTo n cs) := (rk_at hk (e := ⟨9, .data⟩) (by simp) rfl rfl rfl)
      generalize e33 : a.tmps.getD 33 undef = u at hown
      obtain ⟨A9, c9, rfl, -⟩ := hown.form
      exact ro_pure (v := .agg #[.slice A9 (fitTo n cs).length c9, .bool s]) (wanted_none rfl) (by have f33 := gd e33; simp [execOp, Act.eval, f33, f35, go_sem]) ⟨_, rfl, hown⟩ (Chg.refl _ _)
    refine RSteps.cons (fun a w' hc hp hk => ?_) ?_
    · have e4 : a.tmps.getD 4 undef = (.pointer (some ⟨w.heap.size + 1, 0, none⟩) : Value) := (rk_same hk 4 (by kernel_rfl)).trans rfl
      have f4 := gd e4
      obtain ⟨v, e36, hown⟩ : ∃ v, (a.tmps.getD 36 undef) = .agg #[v, .bool s] ∧ OwnC w' (w.heap.size + 2) v (fitTo n cs) := (rk_at hk (e := ⟨12, .data⟩) (by simp) rfl rfl rfl)
      obtain ⟨A9, c9, rfl, -⟩ := hown.form
      have f36 := gd e36
      have hp' : Blk w' (w.heap.size + 1) 59 #[.slice none 0 0, .bool false] := hp
      obtain ⟨hx, hf, hz⟩ := hp'.facts
      refine rstep_store (w2 := setLine w' (w.heap.size + 1) (.slice A9 (fitTo n cs).length c9) s) (wanted_none rfl) rfl ?_ ⟨_, blk_setLine hp' _ _, own_chg hown (chg_setLine _ _ _ _) (fun b hb he => by have := own_from hown b hb; omega)⟩ (chg_setLine _ _ _ _)
      simp [execOp, Act.eval, e4, f4, e36, f36, go_sem, hx, hf, hz, setLine]
    refine RSteps.cons (fun a w' hc hp hk => ?_) ?_
    · exact ro_pure (v := .int .i64 0) (wanted_none rfl) (by simp [execOp, Act.eval, go_sem]) rfl (Chg.refl _ _)
    exact RSteps.nil
  · intro vs wz hc hv
    obtain ⟨v, hblk, hown⟩ : ∃ v, Blk wz (w.heap.size + 1) 59 #[v, .bool s] ∧ OwnC wz (w.heap.size + 2) v (fitTo n cs) := hv 13 (by decide) rfl
    have q14 : vs 14 = .int .i64 0 := hv 14 (by decide) rfl
    simp only [putL, Act.put, Nat.zero_add, Nat.reduceAdd, q14, List.setIfInBounds_toArray, List.set_cons_succ, List.set_cons_zero]
    go_wp2_with fail
    refine bodyPost_ret (results_ct Tryd.results60 _ _ (w.heap.size + 1) _ _ rfl hblk Tryd.underlying59 rfl line_size) rfl ?_
    exact ⟨_, rfl, hown.low (by omega), HB.out.trans (hc.below HB.out.size (fun k hk he => by omega))⟩
set_option maxHeartbeats 1000000 in
theorem lineFit_no (A : Option Addr) (c : Nat) (cs : List Cell) (s : Bool) (n : Int) (w : World) (ht : Tabs w) (ha : RdC w A c cs) (hn : cs.length ≤ 100000) (hv : ¬ (lineOk cs = true ∧ 0 ≤ n ∧ n ≤ 1000)) :
    Calls Tryd.prog 60 #[.agg #[.slice A cs.length c, .bool s], .int .i64 n] w (LineEnd [] false 2 w) := by
  have HT := Lib.hid ht
  have HA0 := Lib.hid ha
  clear ha ht
  have hgo : ∀ x, lineOk cs = x → (x = false ∨ n < 0 ∨ 1000 < n) → Calls Tryd.prog 60 #[.agg #[.slice A cs.length c, .bool s], .int .i64 n] w (LineEnd [] false 2 w) := by
    intro x hx hor
    have HV := Lib.hid hx
    clear hx hv
    rcases hor with rfl | h | h
    case' inr.inr => have h0 : ¬ n < 0 := by omega
    all_goals
      try cases x
    all_goals
      go_enter Tryd.func60, Tryd.ntmps60
      go_wp2_with fail
      refine (lvalid_is HV.out _ _ _ _ ((HT.out.bel (belA _ _)).bel (belA _ _)) ((HA0.out.alloc _).alloc _) (by omega)).mono ?_
      rintro e W ⟨rfl, hb⟩
      obtain ⟨k0, k1, hb1⟩ := box2 hb
      obtain ⟨hx0, hf0, hz0⟩ := k1.facts
      have K1 := Lib.hid k1
      have HB := Lib.hid hb1
      clear hb k0 k1 hb1
      go_wp2_with fail
      have HF := fin_line (w := w) (g := w.heap.size + 1) (v := .slice none 0 0) (l := []) false HB.out K1.out (by omega) (OwnC.nil W (w.heap.size + 2)) (by omega)
      refine bodyPost_ret (results_ct Tryd.results60 _ _ (w.heap.size + 1) _ _ rfl HF.1 Tryd.underlying59 rfl line_size) rfl ?_
      exact ⟨_, rfl, HF.2⟩
  cases h : lineOk cs
  · exact hgo false h (.inl rfl)
  · exact hgo true h (.inr (by simp [h] at hv; omega))
end Go.Proofs.YtmfhepjmmpnkaaaDoor
