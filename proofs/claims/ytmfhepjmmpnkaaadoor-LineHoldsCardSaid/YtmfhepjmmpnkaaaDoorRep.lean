/-
  slices.Repeat of one cell; the line of so many empty cells.
-/
import Derived.Test.YtmfhepjmmpnkaaaDoorLine1
import Derived.Test.YtmfhepjmmpnkaaaDoorCopy
import Derived.Test.YtmfhepjmmpnkaaaDoorReg1
import Derived.Laws.BitsAllLaws
import Derived.IntWalk
import Derived.Deep.Cut
import Derived.Deep.CutRange
set_option linter.unusedSimpArgs false
set_option linter.unusedVariables false
namespace Go.Proofs.YtmfhepjmmpnkaaaDoor
open Go.RowKit

theorem and32 (n : Nat) (hn : n ≤ 1000000) : bits .and .u64 (n : Int) 4294967295 = n := by
  rw [show (4294967295 : Int) = ((4294967295 : Nat) : Int) from rfl, u64_and_nat n 4294967295 (by omega) (by omega)]
  congr 1
  rw [show (4294967295 : Nat) = 2 ^ 32 - 1 from rfl, Nat.and_two_pow_sub_one_eq_mod]
  exact Nat.mod_eq_of_lt (by omega)
theorem u64_nat (n : Nat) (hn : n ≤ 1000000) : IntKind.u64.wrap (n : Int) = n := IntWalk.u64_in _ ⟨by omega, by omega⟩
set_option maxHeartbeats 400000 in
theorem mul64_one (n : Nat) (hn : n ≤ 1000000) (w : World) : Calls Tryd.prog 96 #[.int .u64 1, .int .u64 n] w fun e w' => e = .returned (.tuple #[.int .u64 0, .int .u64 n]) ∧ w = w' := by
  have h1 : bits .and .u64 1 4294967295 = 1 := and32 1 (by omega)
  have h2 := and32 n hn
  have h3 : (n : Int) / 4294967296 = 0 := by omega
  have h4 := u64_nat n hn
  have h5 : bits .and .u64 0 4294967295 = 0 := and32 0 (by omega)
  have h6 : IntKind.u64.wrap 0 = 0 := u64_nat 0 (by omega)
  go_enter Tryd.func96, Tryd.ntmps96
  go_wp2_with fail
  go_ret2
  exact ⟨rfl, rfl⟩
set_option maxHeartbeats 400000 in
theorem mul_one_any (n : Nat) (hn : n ≤ 1000000) (w : World) : Calls Tryd.prog 94 #[.int .u64 1, .int .u64 n] w fun e w' => e = .returned (.tuple #[.int .u64 0, .int .u64 n]) ∧ w = w' := by
  go_enter Tryd.func94, Tryd.ntmps94
  go_wp2_with fail
  refine (mul64_one n hn _).mono ?_
  rintro e w1 ⟨rfl, rfl⟩
  go_wp2_with fail
  go_ret2
  exact ⟨rfl, rfl⟩
theorem made_flat (n : Nat) : (madeCells (cv cell0) (n * 16)).toList = flat (List.replicate n cell0) := by
  induction n with
  | zero => simp [madeCells, flat]
  | succ n ih =>
    rw [List.replicate_succ', flat_append, ← ih]
    apply List.ext_getElem?
    intro j
    simp only [madeCells, Array.toList_map, Array.toList_range, List.getElem?_map, List.getElem?_append, List.length_map, List.length_range]
    rcases Nat.lt_or_ge j (n * 16) with h | h
    · rw [if_pos h, List.getElem?_range (by omega), List.getElem?_range h]
    · rw [if_neg (by omega)]
      rcases Nat.lt_or_ge j ((n + 1) * 16) with h2 | h2
      · rw [List.getElem?_range h2]
        have : j % (cv cell0).size = j - n * 16 := by rw [cv_size]; omega
        simp only [Option.map_some, this, flat, List.flatMap_cons, List.flatMap_nil, List.append_nil, Array.getElem?_toList]
        rw [Array.getElem!_eq_getD, Array.getElem?_eq_getElem (by rw [cv_size]; omega)]
        simp
        rw [Array.getElem?_eq_getElem (by rw [cv_size]; omega)]
        rfl
      · rw [List.getElem?_eq_none (by simp; omega), List.getElem?_eq_none (by simp [flat, cv_size]; omega)]
        rfl
theorem own_made (w : World) (n : Nat) (hn : n ≤ 1000000) : OwnC (w.alloc (.cells (madeCells (cv cell0) (n * 16)) 30)) w.heap.size (.slice (some ⟨w.heap.size, 0, none⟩) n n) (List.replicate n cell0) := by
  have := own_mk (w := w.alloc (.cells (madeCells (cv cell0) (n * 16)) 30)) (B := w.heap.size) (g := w.heap.size) (t := 30) (k := 16) (n := n) (cap := n) (xs := flat (List.replicate n cell0)) (by rw [flat_length]; simp) (Nat.le_refl _) (Nat.le_refl _) (by simp [maxLen]; omega) (heap_alloc_new w _) (by simp [madeCells])
    (by rw [made_flat, List.take_length])
  simpa [OwnC] using this
theorem run_makeC (n : Nat) (hn : n ≤ 1000000) (w : World) : (Instr.makeSlice 43 (.int .i64 n) (.int .i64 n)).run Tryd.prog w = .ok (.slice (some ⟨w.heap.size, 0, none⟩) n n) (w.alloc (.cells (madeCells (cv cell0) (n * 16)) 30)) := by
  obtain ⟨i, hi, hz0, hz1, hz2⟩ := info_parts cell_info
  have := run_make (P := Tryd.prog) w 43 30 i (.agg (cv cell0)) Tryd.underlying43 hi hz0 .i64 .i64 (n : Int) (n : Int) (by omega) (Int.le_refl _) (by rw [hz2]; omega) (by omega)
  simpa [hz1, Value.cells] using this
/-- What the rounds of the copying keep. -/
theorem rep_step {c : Cell} {n k m : Nat} (hkn : k + m ≤ n) :
    over (flat (List.replicate k c ++ List.replicate (n - k) cell0)) (k * 16) (flat (List.replicate m c)) = flat (List.replicate (k + m) c ++ List.replicate (n - (k + m)) cell0) := by
  unfold over
  have e1 : (flat (List.replicate k c ++ List.replicate (n - k) cell0)).take (k * 16) = flat (List.replicate k c) := by
    rw [flat_take, List.take_left' (by simp)]
  have e2 : (flat (List.replicate k c ++ List.replicate (n - k) cell0)).drop (k * 16 + (flat (List.replicate m c)).length) = flat (List.replicate (n - (k + m)) cell0) := by
    rw [flat_length, show k * 16 + (List.replicate m c).length * 16 = (k + m) * 16 by simp; omega, flat_drop]
    congr 1
    rw [List.drop_append]
    simp
    omega
  rw [e1, e2, ← flat_append, ← flat_append]
  congr 1
  rw [← List.append_assoc, List.replicate_append_replicate]
def repL (n k : Nat) (c : Cell) : List Cell := List.replicate k c ++ List.replicate (n - k) cell0
theorem repL_length {n k : Nat} (c : Cell) (h : k ≤ n) : (repL n k c).length = n := by simp [repL]; omega
theorem rep_own {w : World} {B n g : Nat} {v : Value} {k : Nat} {c : Cell} (h : k ≤ n) (ho : w.ownsRow B 30 16 v n (flat (repL n k c))) : OwnC w B v (repL n k c) := by
  unfold OwnC; rw [repL_length c h]; exact ho
theorem OwnC_n {w : World} {B n : Nat} {v : Value} {cs : List Cell} (h : OwnC w B v cs) (hn : cs.length = n) : w.ownsRow B 30 16 v n (flat cs) := hn ▸ h
theorem rep_src {w : World} {B g n k m j : Nat} {c : Cell} {v : Value} (h : OwnC w B (.slice (some ⟨g, 0, none⟩) n n) (repL n k c)) (hv : (flat (List.replicate m c))[j]? = some v) (hm : m ≤ k := by omega) : w.cell? ⟨g, j, none⟩ = some v := by
  obtain ⟨g', cap, e, _⟩ := h.blk (by
    rcases Nat.eq_zero_or_pos (repL n k c).length with h0 | h0
    · exfalso
      have : k = 0 := by simp [repL] at h0; omega
      have : m = 0 := by omega
      subst this
      simp [flat] at hv
    · exact h0)
  simp only [Value.slice.injEq, Option.some.injEq, Addr.mk.injEq, and_true, true_and] at e
  obtain ⟨rfl, hl, rfl⟩ := e
  refine own_cell (show w.ownsRow B 30 16 (.slice (some ⟨g, 0, none⟩) n n) n (flat (repL n k c)) from OwnC_n h hl.symm) j v ?_
  have hj : j < (flat (List.replicate m c)).length := (List.getElem?_eq_some_iff.1 hv).1
  unfold repL
  rw [show List.replicate k c = List.replicate m c ++ List.replicate (k - m) c by rw [List.replicate_append_replicate]; congr 1; omega, List.append_assoc, flat_append, List.getElem?_append_left hj]
  exact hv
set_option maxRecDepth 100000 in
set_option maxHeartbeats 1000000 in
theorem repeat_any (c : Cell) (n : Nat) (hn : n ≤ 1000) (A : Option Addr) (cap : Nat) (w : World) (ha : RdC w A cap [c]) :
    Calls Tryd.prog 87 #[.slice A 1 cap, .int .i64 n] w (OwnEnd (List.replicate n c) w) := by
  have HA := Lib.hid ha
  clear ha
  have h4 := u64_nat n (by omega)
  have h1 : IntKind.u64.wrap 1 = 1 := u64_nat 1 (by omega)
  have hmk := run_makeC n (by omega)
  go_enter Tryd.func87, Tryd.ntmps87
  go_wp2_with fail
  refine (mul_one_any n (by omega) _).mono ?_
  rintro e w1 ⟨rfl, rfl⟩
  go_upto_region 7 with (fail)
  clear hmk
  have HO := Lib.hid (own_made w n (by omega))
  have HB := Lib.hid (belA w (.cells (madeCells (cv cell0) (n * 16)) 30))
  generalize w.alloc (.cells (madeCells (cv cell0) (n * 16)) 30) = W at HO HB ⊢
  obtain ⟨W2, hrun, ho2, hg2⟩ := own_copy (P := Tryd.prog) (by have := HO.out; unfold OwnC at this; rwa [List.length_replicate] at this) 43 43 3 Tryd.underlying43 cell_size (some ⟨w.heap.size, 0, none⟩) A n n 1 cap 0 (flat (List.replicate (min 1 n) c)) (by rw [flat_length, List.length_replicate]) (by rw [flat_length, flat_length]; simp; omega)
    (fun hp => ⟨rfl, by
      obtain ⟨b, off, e, hlt, hr⟩ := (HA.out.bel HB.out).2.2 (by simp)
      refine ⟨_, e, fun j v hv => ?_⟩
      rw [add_at]
      have hmin : min 1 n = 1 := by have : 0 < min 1 n := hp; omega
      rw [hmin] at hv
      exact hr j v hv⟩) (flat_one _)
  obtain ⟨k0, hk0⟩ : ∃ k0 : Nat, k0 = min 1 n := ⟨_, rfl⟩
  have hk1 : k0 ≤ n ∧ (0 < k0 ∨ n = 0) := by omega
  rw [show Nat.min 1 n = k0 from hk0.symm] at hrun
  rw [← hk0] at ho2
  have HO2 := Lib.hid (rep_own (g := 0) hk1.1 (show W2.ownsRow w.heap.size 30 16 (.slice (some ⟨w.heap.size, 0, none⟩) n n) n (flat (repL n k0 c)) by
    have := ho2
    have e := rep_step (c := c) (n := n) (k := 0) (m := k0) (by omega)
    simp only [List.replicate_zero, List.nil_append, Nat.sub_zero, Nat.zero_mul, Nat.zero_add] at e
    rw [e] at this
    exact this))
  have HB2 := Lib.hid (HB.out.grown hg2 HB.out.size (fun k hk => by cases hk; exact Nat.le_refl _))
  clear ho2 hg2 HO hk0
  go_wp2_with fail
  go_loopw [8] (fun i wr => ∃ k : Nat, k ≤ n ∧ (0 < k ∨ n = 0) ∧ i = .int .i64 k ∧ OwnC wr w.heap.size (.slice (some ⟨w.heap.size, 0, none⟩) n n) (repL n k c) ∧ Below w.heap.size w wr) (fun i _ => n - (intOf i).toNat)
  case atStart => exact ⟨k0, hk1.1, hk1.2, rfl, HO2.out, HB2.out⟩
  case round =>
    clear HO2 HB2 hrun hk1
    obtain ⟨k, hk, hk2, rfl, ho, hb⟩ := hrel
    have HO := Lib.hid ho
    have HB := Lib.hid hb
    clear ho hb
    by_cases hlt : k < n
    · go_wp2_with fail
      have HN := Lib.hid (show k + min k (n - k) ≤ n ∧ k < k + min k (n - k) by omega)
      refine wp_region_one (by kernel_rfl) (by kernel_rfl) (by kernel_rfl) (fun b => b = w.heap.size)
        [.val (.int .i64 k), .val (.slice (some ⟨w.heap.size, 0, none⟩) n n), .val (.int .i64 k), .val (.slice (some ⟨w.heap.size, k * 16, none⟩) (n - k) (n - k)), .val (.slice (some ⟨w.heap.size, 0, none⟩) n n), .val (.int .i64 k), .val (.slice (some ⟨w.heap.size, 0, none⟩) k n), .val undef, .val (.int .i64 ((k + min k (n - k) : Nat) : Int)), .val (.int .i64 ((k + min k (n - k) : Nat) : Int))] 7
        (fun v wz => v = .int .i64 ((min k (n - k) : Nat) : Int) ∧ OwnC wz w.heap.size (.slice (some ⟨w.heap.size, 0, none⟩) n n) (repL n (k + min k (n - k)) c))
        (fun wz => OwnC wz w.heap.size (.slice (some ⟨w.heap.size, 0, none⟩) n n) (repL n k c)) HO.out (fun _ _ h hb => h.bel hb) (fun _ _ _ h hb => ⟨h.1, h.2.bel hb⟩) ?_ ?_
      · refine RSteps.cons (fun a w' hc hp hk => ?_) ?_
        · have e8 : a.tmps.getD 8 undef = (.int .i64 k : Value) := (rk_old hk 9 rfl (e := ⟨0, .phase⟩) (by simp) rfl rfl rfl).trans rfl
          exact ro_pure (v := .int .i64 k) (wanted_none rfl) (by simp [execOp, Act.eval, e8, go_sem]) rfl (Below.refl _ _)
        refine RSteps.cons (fun a w' hc hp hk => ?_) ?_
        · have e7 : a.tmps.getD 7 undef = (.slice (some ⟨w.heap.size, 0, none⟩) n n : Value) := (rk_same hk 7 (by kernel_rfl)).trans rfl
          exact ro_pure (v := .slice (some ⟨w.heap.size, 0, none⟩) n n) (wanted_none rfl) (by simp [execOp, Act.eval, e7, go_sem]) rfl (Below.refl _ _)
        refine RSteps.cons (fun a w' hc hp hk => ?_) ?_
        · have e8 : a.tmps.getD 8 undef = (.int .i64 k : Value) := (rk_old hk 9 rfl (e := ⟨2, .phase⟩) (by simp) rfl rfl rfl).trans rfl
          exact ro_pure (v := .int .i64 k) (wanted_none rfl) (by simp [execOp, Act.eval, e8, go_sem]) rfl (Below.refl _ _)
        refine RSteps.cons (fun a w' hc hp hk => ?_) ?_
        · have e39 : a.tmps.getD 39 undef = (.slice (some ⟨w.heap.size, 0, none⟩) n n : Value) := (rk_at hk (e := ⟨1, .data⟩) (by simp) rfl rfl rfl)
          have e40 : a.tmps.getD 40 undef = (.int .i64 k : Value) := (rk_at hk (e := ⟨2, .data⟩) (by simp) rfl rfl rfl)
          exact ro_pure (v := .slice (some ⟨w.heap.size, k * 16, none⟩) (n - k) (n - k)) (wanted_none rfl) (by simp [execOp, Act.eval, e39, e40, go_sem, show k ≤ n by omega, show ¬ n = k by omega]) rfl (Below.refl _ _)
        refine RSteps.cons (fun a w' hc hp hk => ?_) ?_
        · have e7 : a.tmps.getD 7 undef = (.slice (some ⟨w.heap.size, 0, none⟩) n n : Value) := (rk_same hk 7 (by kernel_rfl)).trans rfl
          exact ro_pure (v := .slice (some ⟨w.heap.size, 0, none⟩) n n) (wanted_none rfl) (by simp [execOp, Act.eval, e7, go_sem]) rfl (Below.refl _ _)
        refine RSteps.cons (fun a w' hc hp hk => ?_) ?_
        · have e8 : a.tmps.getD 8 undef = (.int .i64 k : Value) := (rk_old hk 9 rfl (e := ⟨5, .phase⟩) (by simp) rfl rfl rfl).trans rfl
          exact ro_pure (v := .int .i64 k) (wanted_none rfl) (by simp [execOp, Act.eval, e8, go_sem]) rfl (Below.refl _ _)
        refine RSteps.cons (fun a w' hc hp hk => ?_) ?_
        · have e42 : a.tmps.getD 42 undef = (.slice (some ⟨w.heap.size, 0, none⟩) n n : Value) := (rk_at hk (e := ⟨4, .data⟩) (by simp) rfl rfl rfl)
          have e43 : a.tmps.getD 43 undef = (.int .i64 k : Value) := (rk_at hk (e := ⟨5, .data⟩) (by simp) rfl rfl rfl)
          exact ro_pure (v := .slice (some ⟨w.heap.size, 0, none⟩) k n) (wanted_none rfl) (by simp [execOp, Act.eval, e42, e43, go_sem, show k ≤ n by omega]) rfl (Below.refl _ _)
        refine RSteps.cons (fun a w' hc hp hk => ?_) ?_
        · have e41 : a.tmps.getD 41 undef = (.slice (some ⟨w.heap.size, k * 16, none⟩) (n - k) (n - k) : Value) := (rk_at hk (e := ⟨3, .data⟩) (by simp) rfl rfl rfl)
          have e44 : a.tmps.getD 44 undef = (.slice (some ⟨w.heap.size, 0, none⟩) k n : Value) := (rk_at hk (e := ⟨6, .data⟩) (by simp) rfl rfl rfl)
          obtain ⟨W2, hrun, ho2, hg2⟩ := own_copy (P := Tryd.prog) (by have := OwnC_n hp (repL_length c (by omega)); exact this) 43 43 3 Tryd.underlying43 cell_size (some ⟨w.heap.size, k * 16, none⟩) (some ⟨w.heap.size, 0, none⟩) (n - k) (n - k) k n (k * 16) (flat (List.replicate (min k (n - k)) c)) (by rw [flat_length, List.length_replicate]) (by rw [flat_length, flat_length, repL_length c (by omega)]; simp; omega)
            (fun _ => ⟨rfl, _, rfl, fun j v hv => by rw [add_at, Nat.zero_add]; exact rep_src hp hv⟩) (flat_one _)
          refine rstep_value (v := .int .i64 ((min k (n - k) : Nat) : Int)) (w2 := W2) (wanted_none rfl) ?_ ⟨rfl, rep_own (g := 0) HN.out.1 (by unfold repL; rw [← rep_step HN.out.1]; exact ho2)⟩ (Chg.of_grown hg2 _ (fun k hk => by cases hk; rfl))
          have hgo : goInt (Nat.min k (n - k) : Nat) = .int .i64 ((min k (n - k) : Nat) : Int) := rfl
          simp [execOp, resolve, invoke, builtin, Act.eval, e41, e44, hrun]
          exact hgo
        refine RSteps.cons (fun a w' hc hp hk => ?_) ?_
        · have e38 : a.tmps.getD 38 undef = (.int .i64 k : Value) := (rk_at hk (e := ⟨0, .data⟩) (by simp) rfl rfl rfl)
          have e45 : a.tmps.getD 45 undef = (.int .i64 ((min k (n - k) : Nat) : Int) : Value) := (rk_at hk (e := ⟨7, .data⟩) (by simp) rfl rfl rfl).1
          exact ro_pure (v := .int .i64 ((k + min k (n - k) : Nat) : Int)) (wanted_none rfl) (by simp [execOp, Act.eval, e38, e45, go_sem, IntWalk.i64_in ((k : Int) + ((min k (n - k) : Nat) : Int)) (by omega)]) rfl (Below.refl _ _)
        refine RSteps.cons (fun a w' hc hp hk => ?_) ?_
        · have e46 : a.tmps.getD 46 undef = (.int .i64 ((k + min k (n - k) : Nat) : Int) : Value) := (rk_at hk (e := ⟨8, .data⟩) (by simp) rfl rfl rfl)
          exact ro_pure (v := .int .i64 ((k + min k (n - k) : Nat) : Int)) (wanted_none rfl) (by simp [execOp, Act.eval, e46, go_sem]) rfl (Below.refl _ _)
        exact RSteps.nil
      · intro vs wz hc hv h7
        have HC := Lib.hid (hc.below (B := w.heap.size) (by have := HB.out.size; exact this) (fun b hb he => by subst he; omega))
        have H7 := Lib.hid (h7 (by decide)).2
        have q9 : vs 9 = .int .i64 ((k + min k (n - k) : Nat) : Int) := hv 9 (by decide) (by decide)
        clear hc hv h7
        simp only [putL, Act.put, q9, List.setIfInBounds_toArray, List.set_cons_succ, List.set_cons_zero]
        clear q9
        generalize k + min k (n - k) = k2 at HN H7 ⊢
        have hn2 := HN.out
        go_wp2_with fail
        go_roundw
        case rel => exact ⟨k2, by omega, by omega, rfl, H7.out, HB.out.trans HC.out⟩
        case measure => simp [intOf]; omega
    · obtain rfl : k = n := by omega
      have HE := Lib.hid (show repL k k c = List.replicate k c by simp [repL])
      go_wp2_with fail
      go_ret
      exact ⟨_, rfl, by rw [← HE.out]; exact HO.out, HB.out⟩
theorem OwnC.low {w : World} {B B' : Nat} {v : Value} {cs : List Cell} (h : OwnC w B v cs) (hB : B' ≤ B) : OwnC w B' v cs := by
  refine ⟨h.1, ?_⟩
  rcases h.2 with h' | ⟨g, cap, cur, h1, h2, h3⟩
  · exact .inl h'
  · exact .inr ⟨g, cap, cur, h1, Nat.le_trans hB h2, h3⟩
set_option maxHeartbeats 400000 in
theorem lineEmpties_any (n : Nat) (hn : n ≤ 1000) (w : World) : Calls Tryd.prog 82 #[.int .i64 n] w (OwnEnd (empties n) w) := by
  go_enter Tryd.func82, Tryd.ntmps82
  go_wp2_with fail
  refine (cellBlank_any _ _).mono ?_
  rintro e w1 ⟨rfl, hb⟩
  have HB := Lib.hid hb
  clear hb
  go_wp2_with (refine wpList_bs1 rfl _ rfl _ rfl ?_)
  refine (repeat_any (blank pen0) n hn _ _ _ (RdC.lit _ [blank pen0])).mono ?_
  rintro e w2 ⟨v, rfl, ho, hb2⟩
  have HO := Lib.hid ho
  have HB2 := Lib.hid hb2
  clear ho hb2
  go_wp2_with fail
  go_ret
  refine ⟨_, rfl, ?_, HB.out.trans ((bel1 HB2.out).mono HB.out.size)⟩
  exact HO.out.low (by have := HB.out.size; simp; omega)
end Go.Proofs.YtmfhepjmmpnkaaaDoor
