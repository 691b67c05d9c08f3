/-
  Part 2 of the texts on which the proofs of this seat stand: each part says ahead of it what it shows.
-/
import Derived.Test.YtppijfjigcoifaaDoorS1
import Derived.Laws.BitsAllLaws
import Derived.IntWalk
import Derived.Deep.Cut
import Derived.Deep.CutRange
import Derived.Lib.MinMax
set_option linter.unusedSimpArgs false
set_option linter.unusedVariables false
namespace Go.Proofs.YtppijfjigcoifaaDoor
open Go.RowKit

theorem and32 (n : Nat) (hn : n ≤ 1000000) : bits .and .u64 (n : Int) 4294967295 = n := by
 rw [show (4294967295 : Int) = ((4294967295 : Nat) : Int) from rfl, u64_and_nat n 4294967295 (by omega) (by omega)]
 congr 1
 rw [show (4294967295 : Nat) = 2 ^ 32 - 1 from rfl, Nat.and_two_pow_sub_one_eq_mod]
 exact Nat.mod_eq_of_lt (by omega)
theorem u64_nat (n : Nat) (hn : n ≤ 1000000) : IntKind.u64.wrap (n : Int) = n := IntWalk.u64_in _ ⟨by omega, by omega⟩
set_option maxHeartbeats 400000 in
theorem mul64_one (n : Nat) (hn : n ≤ 1000000) (w : World) : Calls Tryd.prog 99 #[.int .u64 1, .int .u64 n] w fun e w' => e = .returned (.tuple #[.int .u64 0, .int .u64 n]) ∧ w = w' := by
 have h1 : bits .and .u64 1 4294967295 = 1 := and32 1 (by omega)
 have h2 := and32 n hn
 have h3 : (n : Int) / 4294967296 = 0 := by omega
 have h4 := u64_nat n hn
 have h5 : bits .and .u64 0 4294967295 = 0 := and32 0 (by omega)
 have h6 : IntKind.u64.wrap 0 = 0 := u64_nat 0 (by omega)
 go_enter Tryd.func99, Tryd.ntmps99
 go_wp2_with fail
 go_ret2
 exact ⟨rfl, rfl⟩
set_option maxHeartbeats 400000 in
theorem mul_one_any (n : Nat) (hn : n ≤ 1000000) (w : World) : Calls Tryd.prog 96 #[.int .u64 1, .int .u64 n] w fun e w' => e = .returned (.tuple #[.int .u64 0, .int .u64 n]) ∧ w = w' := by
 go_enter Tryd.func96, Tryd.ntmps96
 go_wp2_with fail
 refine (mul64_one n hn _).mono ?_
 rintro e w1 ⟨rfl, rfl⟩
 go_wp2_with fail
 go_ret2
 exact ⟨rfl, rfl⟩
theorem made_flat (n : Nat) : (madeCells (cv cell0) (n * 16)).toList = flat (List.replicate n cell0) := by
 induction n with
 | zero => simp [madeCells, flat]
 | succ n ih =>
  rw [List.replicate_succ', flat_append, ← ih]
  apply List.ext_getElem?
  intro j
  simp only [madeCells, Array.toList_map, Array.toList_range, List.getElem?_map, List.getElem?_append, List.length_map, List.length_range]
  rcases Nat.lt_or_ge j (n * 16) with h | h
  ·rw [if_pos h, List.getElem?_range (by omega), List.getElem?_range h]
  ·rw [if_neg (by omega)]
   rcases Nat.lt_or_ge j ((n + 1) * 16) with h2 | h2
   ·rw [List.getElem?_range h2]
    have : j % (cv cell0).size = j - n * 16 := by rw [cv_size]; omega
    simp only [Option.map_some, this, flat, List.flatMap_cons, List.flatMap_nil, List.append_nil, Array.getElem?_toList]
    rw [Array.getElem!_eq_getD, Array.getElem?_eq_getElem (by rw [cv_size]; omega)]
    simp
    rw [Array.getElem?_eq_getElem (by rw [cv_size]; omega)]
    rfl
   ·rw [List.getElem?_eq_none (by simp; omega), List.getElem?_eq_none (by simp [flat, cv_size]; omega)]
    rfl
theorem own_made (w : World) (n : Nat) (hn : n ≤ 1000000) : OwnC (w.alloc (.cells (madeCells (cv cell0) (n * 16)) 71)) w.heap.size (.slice (some ⟨w.heap.size, 0, none⟩) n n) (List.replicate n cell0) := by
 have := own_mk (w := w.alloc (.cells (madeCells (cv cell0) (n * 16)) 71)) (B := w.heap.size) (g := w.heap.size) (t := 71) (k := 16) (n := n) (cap := n) (xs := flat (List.replicate n cell0)) (by rw [flat_length]; simp) (Nat.le_refl _) (Nat.le_refl _) (by simp [maxLen]; omega) (heap_alloc_new w _) (by simp [madeCells])
  (by rw [made_flat, List.take_length])
 simpa [OwnC] using this
theorem run_makeC (n : Nat) (hn : n ≤ 1000000) (w : World) : (Instr.makeSlice 37 (.int .i64 n) (.int .i64 n)).run Tryd.prog w = .ok (.slice (some ⟨w.heap.size, 0, none⟩) n n) (w.alloc (.cells (madeCells (cv cell0) (n * 16)) 71)) := by
 obtain ⟨i, hi, hz0, hz1, hz2⟩ := info_parts cell_info
 have := run_make (P := Tryd.prog) w 37 71 i (.agg (cv cell0)) Tryd.underlying37 hi hz0 .i64 .i64 (n : Int) (n : Int) (by omega) (Int.le_refl _) (by rw [hz2]; omega) (by omega)
 simpa [hz1, Value.cells] using this
theorem rep_step {c : Cell} {n k m : Nat} (hkn : k + m ≤ n) :
  over (flat (List.replicate k c ++ List.replicate (n - k) cell0)) (k * 16) (flat (List.replicate m c)) = flat (List.replicate (k + m) c ++ List.replicate (n - (k + m)) cell0) := by
 unfold over
 have e1 : (flat (List.replicate k c ++ List.replicate (n - k) cell0)).take (k * 16) = flat (List.replicate k c) := by
  rw [flat_take, List.take_left' (by simp)]
 have e2 : (flat (List.replicate k c ++ List.replicate (n - k) cell0)).drop (k * 16 + (flat (List.replicate m c)).length) = flat (List.replicate (n - (k + m)) cell0) := by
  rw [flat_length, show k * 16 + (List.replicate m c).length * 16 = (k + m) * 16 by simp; omega, flat_drop]
  congr 1
  rw [List.drop_append]
  simp
  omega
 rw [e1, e2, ← flat_append, ← flat_append]
 congr 1
 rw [← List.append_assoc, List.replicate_append_replicate]
def repL (n k : Nat) (c : Cell) : List Cell := List.replicate k c ++ List.replicate (n - k) cell0
theorem repL_length {n k : Nat} (c : Cell) (h : k ≤ n) : (repL n k c).length = n := by simp [repL]; omega
theorem rep_own {w : World} {B n g : Nat} {v : Value} {k : Nat} {c : Cell} (h : k ≤ n) (ho : w.ownsRow B 71 16 v n (flat (repL n k c))) : OwnC w B v (repL n k c) := by
 unfold OwnC; rw [repL_length c h]; exact ho
theorem OwnC_n {w : World} {B n : Nat} {v : Value} {cs : List Cell} (h : OwnC w B v cs) (hn : cs.length = n) : w.ownsRow B 71 16 v n (flat cs) := hn ▸ h
theorem rep_src {w : World} {B g n k m j : Nat} {c : Cell} {v : Value} (h : OwnC w B (.slice (some ⟨g, 0, none⟩) n n) (repL n k c)) (hv : (flat (List.replicate m c))[j]? = some v) (hm : m ≤ k := by omega) : w.cell? ⟨g, j, none⟩ = some v := by
 obtain ⟨g', cap, e, _⟩ := h.blk (by
  rcases Nat.eq_zero_or_pos (repL n k c).length with h0 | h0
  ·exfalso
   have : k = 0 := by simp [repL] at h0; omega
   have : m = 0 := by omega
   subst this
   simp [flat] at hv
  ·exact h0)
 simp only [Value.slice.injEq, Option.some.injEq, Addr.mk.injEq, and_true, true_and] at e
 obtain ⟨rfl, hl, rfl⟩ := e
 refine own_cell (show w.ownsRow B 71 16 (.slice (some ⟨g, 0, none⟩) n n) n (flat (repL n k c)) from OwnC_n h hl.symm) j v ?_
 have hj : j < (flat (List.replicate m c)).length := (List.getElem?_eq_some_iff.1 hv).1
 unfold repL
 rw [show List.replicate k c = List.replicate m c ++ List.replicate (k - m) c by rw [List.replicate_append_replicate]; congr 1; omega, List.append_assoc, flat_append, List.getElem?_append_left hj]
 exact hv
set_option maxRecDepth 100000 in
set_option maxHeartbeats 1000000 in
theorem repeat_any (c : Cell) (n : Nat) (hn : n ≤ 1000) (A : Option Addr) (cap : Nat) (w : World) (ha : RdC w A cap [c]) :
  Calls Tryd.prog 90 #[.slice A 1 cap, .int .i64 n] w (OwnEnd (List.replicate n c) w) := by
 have HA := Lib.hid ha
 clear ha
 have h4 := u64_nat n (by omega)
 have h1 : IntKind.u64.wrap 1 = 1 := u64_nat 1 (by omega)
 have hmk := run_makeC n (by omega)
 go_enter Tryd.func90, Tryd.ntmps90
 go_wp2_with fail
 refine (mul_one_any n (by omega) _).mono ?_
 rintro e w1 ⟨rfl, rfl⟩
 go_upto_region 7 with (fail)
 clear hmk
 have HO := Lib.hid (own_made w n (by omega))
 have HB := Lib.hid (belA w (.cells (madeCells (cv cell0) (n * 16)) 71))
 generalize w.alloc (.cells (madeCells (cv cell0) (n * 16)) 71) = W at HO HB ⊢
 obtain ⟨W2, hrun, ho2, hg2⟩ := own_copy (P := Tryd.prog) (by have := HO.out; unfold OwnC at this; rwa [List.length_replicate] at this) 37 37 3 Tryd.underlying37 cell_size (some ⟨w.heap.size, 0, none⟩) A n n 1 cap 0 (flat (List.replicate (min 1 n) c)) (by rw [flat_length, List.length_replicate]) (by rw [flat_length, flat_length]; simp; omega)
  (fun hp => ⟨rfl, by
   obtain ⟨b, off, e, hlt, hr⟩ := (HA.out.bel HB.out).2.2 (by simp)
   refine ⟨_, e, fun j v hv => ?_⟩
   rw [add_at]
   have hmin : min 1 n = 1 := by have : 0 < min 1 n := hp; omega
   rw [hmin] at hv
   exact hr j v hv⟩) (flat_one _)
 obtain ⟨k0, hk0⟩ : ∃ k0 : Nat, k0 = min 1 n := ⟨_, rfl⟩
 have hk1 : k0 ≤ n ∧ (0 < k0 ∨ n = 0) := by omega
 rw [show Nat.min 1 n = k0 from hk0.symm] at hrun
 rw [← hk0] at ho2
 have HO2 := Lib.hid (rep_own (g := 0) hk1.1 (show W2.ownsRow w.heap.size 71 16 (.slice (some ⟨w.heap.size, 0, none⟩) n n) n (flat (repL n k0 c)) by
  have := ho2
  have e := rep_step (c := c) (n := n) (k := 0) (m := k0) (by omega)
  simp only [List.replicate_zero, List.nil_append, Nat.sub_zero, Nat.zero_mul, Nat.zero_add] at e
  rw [e] at this
  exact this))
 have HB2 := Lib.hid (HB.out.grown hg2 HB.out.size (fun k hk => by cases hk; exact Nat.le_refl _))
 clear ho2 hg2 HO hk0
 go_wp2_with fail
 go_loopw [8] (fun i wr => ∃ k : Nat, k ≤ n ∧ (0 < k ∨ n = 0) ∧ i = .int .i64 k ∧ OwnC wr w.heap.size (.slice (some ⟨w.heap.size, 0, none⟩) n n) (repL n k c) ∧ Below w.heap.size w wr) (fun i _ => n - (intOf i).toNat)
 case atStart => exact ⟨k0, hk1.1, hk1.2, rfl, HO2.out, HB2.out⟩
 case round =>
  clear HO2 HB2 hrun hk1
  obtain ⟨k, hk, hk2, rfl, ho, hb⟩ := hrel
  have HO := Lib.hid ho
  have HB := Lib.hid hb
  clear ho hb
  by_cases hlt : k < n
  ·go_wp2_with fail
   have HN := Lib.hid (show k + min k (n - k) ≤ n ∧ k < k + min k (n - k) by omega)
   refine wp_region_one (by kernel_rfl) (by kernel_rfl) (by kernel_rfl) (fun b => b = w.heap.size)
    [.val (.int .i64 k), .val (.slice (some ⟨w.heap.size, 0, none⟩) n n), .val (.int .i64 k), .val (.slice (some ⟨w.heap.size, k * 16, none⟩) (n - k) (n - k)), .val (.slice (some ⟨w.heap.size, 0, none⟩) n n), .val (.int .i64 k), .val (.slice (some ⟨w.heap.size, 0, none⟩) k n), .val undef, .val (.int .i64 ((k + min k (n - k) : Nat) : Int)), .val (.int .i64 ((k + min k (n - k) : Nat) : Int))] 7
    (fun v wz => v = .int .i64 ((min k (n - k) : Nat) : Int) ∧ OwnC wz w.heap.size (.slice (some ⟨w.heap.size, 0, none⟩) n n) (repL n (k + min k (n - k)) c))
    (fun wz => OwnC wz w.heap.size (.slice (some ⟨w.heap.size, 0, none⟩) n n) (repL n k c)) HO.out (fun _ _ h hb => h.bel hb) (fun _ _ _ h hb => ⟨h.1, h.2.bel hb⟩) ?_ ?_
   ·refine RSteps.cons (fun a w' hc hp hk => ?_) ?_
    ·have e8 : a.tmps.getD 8 undef = .int .i64 k := (rk_old hk 9 rfl (e := ⟨0, .phase⟩) (by simp) rfl rfl rfl).trans rfl
     exact ro_pure (v := .int .i64 k) (wanted_none rfl) (by simp [execOp, Act.eval, e8, go_sem]) rfl (Below.refl _ _)
    refine RSteps.cons (fun a w' hc hp hk => ?_) ?_
    ·have e7 : a.tmps.getD 7 undef = .slice (some ⟨w.heap.size, 0, none⟩) n n := (rk_same hk 7 (by kernel_rfl)).trans rfl
     exact ro_pure (v := .slice (some ⟨w.heap.size, 0, none⟩) n n) (wanted_none rfl) (by simp [execOp, Act.eval, e7, go_sem]) rfl (Below.refl _ _)
    refine RSteps.cons (fun a w' hc hp hk => ?_) ?_
    ·have e8 : a.tmps.getD 8 undef = .int .i64 k := (rk_old hk 9 rfl (e := ⟨2, .phase⟩) (by simp) rfl rfl rfl).trans rfl
     exact ro_pure (v := .int .i64 k) (wanted_none rfl) (by simp [execOp, Act.eval, e8, go_sem]) rfl (Below.refl _ _)
    refine RSteps.cons (fun a w' hc hp hk => ?_) ?_
    ·have e39 : a.tmps.getD 39 undef = .slice (some ⟨w.heap.size, 0, none⟩) n n := (rk_at hk (e := ⟨1, .data⟩) (by simp) rfl rfl rfl)
     have e40 : a.tmps.getD 40 undef = .int .i64 k := (rk_at hk (e := ⟨2, .data⟩) (by simp) rfl rfl rfl)
     exact ro_pure (v := .slice (some ⟨w.heap.size, k * 16, none⟩) (n - k) (n - k)) (wanted_none rfl) (by simp [execOp, Act.eval, e39, e40, go_sem, show k ≤ n by omega, show ¬ n = k by omega]) rfl (Below.refl _ _)
    refine RSteps.cons (fun a w' hc hp hk => ?_) ?_
    ·have e7 : a.tmps.getD 7 undef = .slice (some ⟨w.heap.size, 0, none⟩) n n := (rk_same hk 7 (by kernel_rfl)).trans rfl
     exact ro_pure (v := .slice (some ⟨w.heap.size, 0, none⟩) n n) (wanted_none rfl) (by simp [execOp, Act.eval, e7, go_sem]) rfl (Below.refl _ _)
    refine RSteps.cons (fun a w' hc hp hk => ?_) ?_
    ·have e8 : a.tmps.getD 8 undef = .int .i64 k := (rk_old hk 9 rfl (e := ⟨5, .phase⟩) (by simp) rfl rfl rfl).trans rfl
     exact ro_pure (v := .int .i64 k) (wanted_none rfl) (by simp [execOp, Act.eval, e8, go_sem]) rfl (Below.refl _ _)
    refine RSteps.cons (fun a w' hc hp hk => ?_) ?_
    ·have e42 : a.tmps.getD 42 undef = .slice (some ⟨w.heap.size, 0, none⟩) n n := (rk_at hk (e := ⟨4, .data⟩) (by simp) rfl rfl rfl)
     have e43 : a.tmps.getD 43 undef = .int .i64 k := (rk_at hk (e := ⟨5, .data⟩) (by simp) rfl rfl rfl)
     exact ro_pure (v := .slice (some ⟨w.heap.size, 0, none⟩) k n) (wanted_none rfl) (by simp [execOp, Act.eval, e42, e43, go_sem, show k ≤ n by omega]) rfl (Below.refl _ _)
    refine RSteps.cons (fun a w' hc hp hk => ?_) ?_
    ·have e41 : a.tmps.getD 41 undef = .slice (some ⟨w.heap.size, k * 16, none⟩) (n - k) (n - k) := (rk_at hk (e := ⟨3, .data⟩) (by simp) rfl rfl rfl)
     have e44 : a.tmps.getD 44 undef = .slice (some ⟨w.heap.size, 0, none⟩) k n := (rk_at hk (e := ⟨6, .data⟩) (by simp) rfl rfl rfl)
     obtain ⟨W2, hrun, ho2, hg2⟩ := own_copy (P := Tryd.prog) (by have := OwnC_n hp (repL_length c (by omega)); exact this) 37 37 3 Tryd.underlying37 cell_size (some ⟨w.heap.size, k * 16, none⟩) (some ⟨w.heap.size, 0, none⟩) (n - k) (n - k) k n (k * 16) (flat (List.replicate (min k (n - k)) c)) (by rw [flat_length, List.length_replicate]) (by rw [flat_length, flat_length, repL_length c (by omega)]; simp; omega)
      (fun _ => ⟨rfl, _, rfl, fun j v hv => by rw [add_at, Nat.zero_add]; exact rep_src hp hv⟩) (flat_one _)
     refine rstep_value (v := .int .i64 ((min k (n - k) : Nat) : Int)) (w2 := W2) (wanted_none rfl) ?_ ⟨rfl, rep_own (g := 0) HN.out.1 (by unfold repL; rw [← rep_step HN.out.1]; exact ho2)⟩ (Chg.of_grown hg2 _ (fun k hk => by cases hk; rfl))
     have hgo : goInt (Nat.min k (n - k) : Nat) = .int .i64 ((min k (n - k) : Nat) : Int) := rfl
     simp [execOp, resolve, invoke, builtin, Act.eval, e41, e44, hrun]
     exact hgo
    refine RSteps.cons (fun a w' hc hp hk => ?_) ?_
    ·have e38 : a.tmps.getD 38 undef = .int .i64 k := (rk_at hk (e := ⟨0, .data⟩) (by simp) rfl rfl rfl)
     have e45 : a.tmps.getD 45 undef = .int .i64 ((min k (n - k) : Nat) : Int) := (rk_at hk (e := ⟨7, .data⟩) (by simp) rfl rfl rfl).1
     exact ro_pure (v := .int .i64 ((k + min k (n - k) : Nat) : Int)) (wanted_none rfl) (by simp [execOp, Act.eval, e38, e45, go_sem, IntWalk.i64_in ((k : Int) + ((min k (n - k) : Nat) : Int)) (by omega)]) rfl (Below.refl _ _)
    refine RSteps.cons (fun a w' hc hp hk => ?_) ?_
    ·have e46 : a.tmps.getD 46 undef = .int .i64 ((k + min k (n - k) : Nat) : Int) := (rk_at hk (e := ⟨8, .data⟩) (by simp) rfl rfl rfl)
     exact ro_pure (v := .int .i64 ((k + min k (n - k) : Nat) : Int)) (wanted_none rfl) (by simp [execOp, Act.eval, e46, go_sem]) rfl (Below.refl _ _)
    exact RSteps.nil
   ·intro vs wz hc hv h7
    have HC := Lib.hid (hc.below (B := w.heap.size) (by have := HB.out.size; exact this) (fun b hb he => by subst he; omega))
    have H7 := Lib.hid (h7 (by decide)).2
    have q9 : vs 9 = .int .i64 ((k + min k (n - k) : Nat) : Int) := hv 9 (by decide) (by decide)
    clear hc hv h7
    simp only [putL, Act.put, q9, List.setIfInBounds_toArray, List.set_cons_succ, List.set_cons_zero]
    clear q9
    generalize k + min k (n - k) = k2 at HN H7 ⊢
    have hn2 := HN.out
    go_wp2_with fail
    go_roundw
    case rel => exact ⟨k2, by omega, by omega, rfl, H7.out, HB.out.trans HC.out⟩
    case measure => simp [intOf]; omega
  ·obtain rfl : k = n := by omega
   have HE := Lib.hid (show repL k k c = List.replicate k c by simp [repL])
   go_wp2_with fail
   go_ret
   exact ⟨_, rfl, by rw [← HE.out]; exact HO.out, HB.out⟩
theorem OwnC.low {w : World} {B B' : Nat} {v : Value} {cs : List Cell} (h : OwnC w B v cs) (hB : B' ≤ B) : OwnC w B' v cs := by
 refine ⟨h.1, ?_⟩
 rcases h.2 with h' | ⟨g, cap, cur, h1, h2, h3⟩
 ·exact .inl h'
 ·exact .inr ⟨g, cap, cur, h1, Nat.le_trans hB h2, h3⟩
end Go.Proofs.YtppijfjigcoifaaDoor

namespace Go.Proofs.YtppijfjigcoifaaDoor
open Go.RowKit

def ofCells (r : Int) (p : Pen) : List Cell × Int := if wOf r < 1 ∨ p.ok = false then ([], 2) else if wOf r = 2 then ([⟨r, 0, 0, 0, 2, p⟩, spacer p], 0) else ([⟨r, 0, 0, 0, 1, p⟩], 0)
def CellsEnd (l : List Cell) (n : Int) (w : World) (e : Ending) (w' : World) : Prop := ∃ v, e = .returned (.tuple #[v, .int .i64 n]) ∧ OwnC w' w.heap.size v l ∧ Below w.heap.size w w'

set_option maxHeartbeats 1000000 in
theorem cellOf_any (r : Int) (p : Pen) (w : World) (ht : Tabs w) : Calls Tryd.prog 66 #[.int .i32 r, .agg (pv p)] w (CellsEnd (ofCells r p).1 (ofCells r p).2 w) := by
 have HT := Lib.hid (ht.bel ((Below.refl _ _).alloc (Nat.le_refl _) (.cells (pv p) 54)))
 clear ht
 by_cases h1 : wOf r < 1
 ·have HO := Lib.hid (show ofCells r p = ([], 2) by simp [ofCells, h1])
  go_enter Tryd.func66, Tryd.ntmps66
  go_wp2_with fail
  refine (widthOf_any _ _ HT.out).mono ?_
  rintro e w1 ⟨rfl, hb⟩
  obtain ⟨hk, hb1⟩ := box_call hb (by simp)
  clear hb
  go_wp2_with fail
  go_ret2
  exact ⟨_, by rw [HO.out]; rfl, by rw [HO.out]; exact OwnC.nil _ _, hb1⟩
 cases hp : p.ok
 ·have HP := Lib.hid hp
  have HO := Lib.hid (show ofCells r p = ([], 2) by simp [ofCells, hp])
  clear hp
  go_enter Tryd.func66, Tryd.ntmps66
  go_wp2_with fail
  refine (widthOf_any _ _ HT.out).mono ?_
  rintro e w1 ⟨rfl, hb⟩
  obtain ⟨hk, hb1⟩ := box_call hb (by simp)
  obtain ⟨hx, hf, hz, hpa⟩ := hk.pbox
  clear hb hk
  go_wp2_with fail
  refine (penv_no _ HP.out).mono ?_
  rintro e w2 ⟨rfl, hb2⟩
  go_wp2_with fail
  go_ret2
  exact ⟨_, by rw [HO.out]; rfl, by rw [HO.out]; exact OwnC.nil _ _, hb1.trans (hb2.mono hb1.size)⟩
 have HP := Lib.hid hp
 by_cases h2 : wOf r = 2
 ·have HO := Lib.hid (show ofCells r p = ([⟨r, 0, 0, 0, 2, p⟩, spacer p], 0) by simp [ofCells, hp, h2])
  have H2 := Lib.hid h2
  clear hp h1 h2
  go_enter Tryd.func66, Tryd.ntmps66
  go_wp2_with fail
  refine (width_is H2.out _ HT.out).mono ?_
  rintro e w1 ⟨rfl, hb⟩
  obtain ⟨hk, hb1⟩ := box_call hb (by simp)
  have HK := Lib.hid hk
  obtain ⟨hx, hf, hz, hpa⟩ := hk.pbox
  clear hb hk
  go_wp2_with fail
  refine (penv_yes _ HP.out).mono ?_
  rintro e w2 ⟨rfl, hb2⟩
  have HB := Lib.hid (hb1.trans (hb2.mono hb1.size))
  have HK := Lib.hid (HK.out.bel hb2)
  clear hx hf hz hpa hb1 hb2
  obtain ⟨hx, hf, hz, hpa⟩ := HK.out.pbox
  go_wp2_with fail
  refine (cellSpacer_any _ _).mono ?_
  rintro e w3 ⟨rfl, hb3⟩
  have HO3 := Lib.hid ((OwnC.one (B := w.heap.size) w2 ⟨r, 0, 0, 0, 2, p⟩ HB.out.size).bel hb3)
  have HB3 := Lib.hid ((HB.out.alloc HB.out.size _).trans (hb3.mono (by have := HB.out.size; simp; omega)))
  have hz3 := HB3.out.size
  clear hb3 hx hf hz hpa
  go_wp2_with (at_builtin; (refine wpList_appC rfl _ _ rfl w.heap.size _ _ rfl (HO3.out.alloc _) _ 1 [spacer p] rfl (RdC.one _ _) (by simp) (by simp; omega) ?_); intro v1 w4 hown1 hg1 hat1; have HO4 := Lib.hid hown1; have HB4 := Lib.hid ((HB3.out.alloc HB3.out.size _).grown hg1 (by simp; omega) (fun q hq => (World.ownsRow.lt HO3.out q hq).1)); clear hown1 hg1 hat1)
  go_ret2
  exact ⟨_, by rw [HO.out]; rfl, by rw [HO.out]; exact HO4.out, HB4.out⟩
 ·have H1 := Lib.hid (show wOf r = 1 by have := wOf_cases r; omega)
  have HO := Lib.hid (show ofCells r p = ([⟨r, 0, 0, 0, 1, p⟩], 0) by simp [ofCells, hp, H1.out])
  clear hp h1 h2
  go_enter Tryd.func66, Tryd.ntmps66
  go_wp2_with fail
  refine (width_is H1.out _ HT.out).mono ?_
  rintro e w1 ⟨rfl, hb⟩
  obtain ⟨hk, hb1⟩ := box_call hb (by simp)
  have HK := Lib.hid hk
  obtain ⟨hx, hf, hz, hpa⟩ := hk.pbox
  clear hb hk
  go_wp2_with fail
  refine (penv_yes _ HP.out).mono ?_
  rintro e w2 ⟨rfl, hb2⟩
  have HB := Lib.hid (hb1.trans (hb2.mono hb1.size))
  have HK := Lib.hid (HK.out.bel hb2)
  clear hx hf hz hpa hb1 hb2
  obtain ⟨hx, hf, hz, hpa⟩ := HK.out.pbox
  go_wp2_with fail
  go_ret2
  exact ⟨_, by rw [HO.out]; rfl, by rw [HO.out]; exact OwnC.one (B := w.heap.size) w2 ⟨r, 0, 0, 0, 1, p⟩ HB.out.size, HB.out.alloc HB.out.size _⟩
end Go.Proofs.YtppijfjigcoifaaDoor

namespace Go.Proofs.YtppijfjigcoifaaDoor
open Go.RowKit

theorem OwnC.free {w : World} {B g n cap : Nat} {cs : List Cell} (h : OwnC w B (.slice (some ⟨g, 0, none⟩) n cap) cs) (i : Nat) : w.frozen? ⟨g, i, none⟩ = false := by
 rcases h.2 with ⟨h', _⟩ | ⟨g', cap', cur, h', hb, hg, _⟩
 ·simp at h'
 ·simp only [Value.slice.injEq, Option.some.injEq, Addr.mk.injEq, and_true, true_and] at h'
  obtain ⟨rfl, -, rfl⟩ := h'
  exact Blk.frozen (t := 71) hg i

end Go.Proofs.YtppijfjigcoifaaDoor

namespace Go.Proofs.YtppijfjigcoifaaDoor
open Go.RowKit

def Line1End (l : List Cell) (s : Bool) (w : World) (e : Ending) (w' : World) : Prop := ∃ v, e = .returned (.agg #[v, .bool s]) ∧ OwnC w' w.heap.size v l ∧ Below w.heap.size w w'

def setLine (w : World) (g : Nat) (v : Value) (s : Bool) : World := (w.setCell ⟨g, 0, none⟩ v).setCell ⟨g, 1, none⟩ (.bool s)
theorem chg_setCell (w : World) (a : Addr) (u : Value) : Chg (fun k => k = a.block) w (w.setCell a u) := ⟨rfl, rfl, rfl, by simp [World.setCell], fun k _ hn => Below.heap_setCell w a u k hn⟩
theorem chg_setLine (w : World) (g : Nat) (v : Value) (s : Bool) : Chg (fun k => k = g) w (setLine w g v s) := (chg_setCell w ⟨g, 0, none⟩ v).trans (chg_setCell _ ⟨g, 1, none⟩ _) (fun _ _ h => h)
theorem blk_setLine {w : World} {g : Nat} {t : TypeId} {a b : Value} (h : Blk w g t #[a, b]) (v : Value) (s : Bool) : Blk (setLine w g v s) g t #[v, .bool s] := (h.set_ 0 v).set_ 1 (.bool s)
theorem own_from {w : World} {B : Nat} {v : Value} {cs : List Cell} (h : OwnC w B v cs) : ∀ b, v.ownBlock = some b → B ≤ b := fun b hb => (World.ownsRow.lt h b hb).1
theorem fin_line {w w1 : World} {g B : Nat} {t : TypeId} {a b v : Value} {l : List Cell} (s : Bool) (hB : Below w.heap.size w w1) (hk : Blk w1 g t #[a, b]) (hg : w.heap.size ≤ g) (ho : OwnC w1 B v l) (hgB : g < B) :
  Blk (setLine w1 g v s) g t #[v, .bool s] ∧ OwnC (setLine w1 g v s) w.heap.size v l ∧ Below w.heap.size w (setLine w1 g v s) :=
 ⟨blk_setLine hk v s, OwnC.low (own_chg ho (chg_setLine w1 g v s) (fun b hb he => by have := own_from ho b hb; omega)) (by omega), hB.trans ((chg_setLine w1 g v s).below hB.size (fun k hk he => by omega))⟩
theorem line_size : (Tryd.prog.info? 39).map (·.size) = some 2 := by kernel_rfl

end Go.Proofs.YtppijfjigcoifaaDoor

namespace Go.Proofs.YtppijfjigcoifaaDoor
open Go.RowKit

def eqL (xs : List Cell) (s : Bool) (ys : List Cell) (t : Bool) : Bool := decide ((xs, s) = (ys, t))
theorem lineEq_dec (xs ys : List Cell) (s t : Bool) : eqL xs s ys t = (decide (s = t) && decide (xs = ys)) := by unfold eqL; rw [Bool.eq_iff_iff]; simp [and_comm]
theorem results_c1 {fn : Func} {p : Tmp} {ty tt : TypeId} {P : Program} (h : fn.results = #[.cell p ty]) (tmps : Array Value) (w : World) (g : Nat) (cs : Array Value) (d : TypeDesc)
  (hp : tmps.getD p undef = .pointer (some ⟨g, 0, none⟩)) (hg : Blk w g tt cs)
  (hu : P.underlying ty = some d) (hd : d.isRow = true) (hi : (P.info? ty).map (·.size) = some cs.size) :
  (results fn tmps).run P w = .ok (.agg cs) w := by
 have hp' : tmps[p]?.getD undef = .pointer (some ⟨g, 0, none⟩) := by simpa using hp
 simp [results, h, hp', asAddr, run_loadVar_mid w g 0 ty cs.toList d hg.range hu hd (by simpa using hi)]
set_option maxHeartbeats 400000 in
theorem lineCopy_any (A : Option Addr) (c : Nat) (cs : List Cell) (s : Bool) (w : World) (ha : RdC w A c cs) (hn : cs.length ≤ 1000000) :
  Calls Tryd.prog 58 #[.agg #[.slice A cs.length c, .bool s]] w (Line1End cs s w) := by
 have HA := Lib.hid ha
 clear ha
 go_enter Tryd.func58, Tryd.ntmps58
 go_wp2_with fail
 refine (clone_any _ _ _ _ ((HA.out.alloc _).alloc _) hn).mono ?_
 rintro e w1 ⟨v, rfl, ho, hb⟩
 obtain ⟨hk0, hk1, hb1⟩ := box2 hb
 obtain ⟨A1, c1, rfl, -⟩ := ho.form
 have HO := Lib.hid ho
 have HB := Lib.hid hb1
 have K0 := Lib.hid hk0
 have K1 := Lib.hid hk1
 obtain ⟨hx0, hf0, hz0⟩ := hk0.facts
 obtain ⟨hx1, hf1, hz1⟩ := hk1.facts
 clear ho hb hb1 hk0 hk1
 go_wp2_with fail
 have C1 := chg_setCell w1 ⟨w.heap.size, 0, none⟩ (.slice A1 cs.length c1)
 have HF := fin_line (w := w) (g := w.heap.size + 1) (v := .slice A1 cs.length c1) (l := cs) s (HB.out.trans (C1.below HB.out.size (fun k hk he => by have := (show k = w.heap.size from he); omega))) (K1.out.far (p := ⟨w.heap.size, 0, none⟩) (by simp) _) (by omega) (own_chg HO.out C1 (fun b hb he => by have := own_from HO.out b hb; have := (show b = w.heap.size from he); simp at *; omega)) (by simp)
 refine bodyPost_ret (results_c1 Tryd.results58 _ _ (w.heap.size + 1) _ _ rfl HF.1 Tryd.underlying39 rfl line_size) rfl ?_
 exact ⟨_, rfl, HF.2⟩

end Go.Proofs.YtppijfjigcoifaaDoor

namespace Go.Proofs.YtppijfjigcoifaaDoor
open Go.RowKit

theorem Blk.chg {S : Nat → Prop} {w w' : World} {g : Nat} {t : TypeId} {cs : Array Value} (h : Blk w g t cs) (hc : Chg S w w') (hn : ¬ S g) : Blk w' g t cs := (hc.block g h.lt hn).trans h
def Sq.line {S : Nat → Prop} (B : Nat) (cs : List Cell) (s : Bool) : Sq S :=
 ⟨fun u w => ∃ v, u = .agg #[v, .bool s] ∧ OwnC w B v cs ∧ ∀ b, v.ownBlock = some b → ¬ S b, fun _ _ _ ⟨v, h1, h2, h3⟩ hb => ⟨v, h1, own_chg h2 hb h3, h3⟩⟩
section
variable {ops : Array Oper} {Q : Exit → Act → World → Prop} {o : Oper} {a : Act} {w : World} {Φ : Value → World → Prop} {R : World → World → Prop}
theorem rstep_store {P : Program} {w2 : World} (hw : Region.wanted o (yielded ops a.tmps) = true) (hd : o.dst = none) (hr : (execOp a.eval o).run P w = .ok .skip w2) (hv : Φ undef w2) (hb : R w w2) : RStep P ops Q Φ R o a w := by
 unfold RStep
 rw [if_pos hw]
 unfold Oper.wp
 rw [hr]
 exact ⟨undef, (by rw [hd]), hv, hb⟩
theorem ro_call {f : FuncId} {xs : Array Operand} {args : Array Value} {ts : Array TypeId} (hw : Region.wanted o (yielded ops a.tmps) = true) (ho : o.op = .call { callee := .value (.func f), args := xs, argTypes := ts }) (hx : xs.map a.eval = args)
  (hf : ∀ (vs : Array Value) (w : World), (callFunc f vs).run Tryd.prog w = .ok (.enter f vs) w) (hc : Calls Tryd.prog f args w fun e w2 => ∃ v, e = .returned v ∧ Φ v w2 ∧ R w w2) : RStep Tryd.prog ops Q Φ R o a w := by
 refine rstep_call (f := f) (args := args) hw ?_ hc
 unfold execOp
 subst hx
 simp only [ho, resolve, invoke, Sem.run_bind, Sem.run_pure, Result.andThen_ok, Act.eval]
 simp [go_sem, hf]
end
end Go.Proofs.YtppijfjigcoifaaDoor

namespace Go.Proofs.YtppijfjigcoifaaDoor
open Go.RowKit

theorem gd {xs : Array Value} {i : Nat} {v : Value} (h : xs.getD i undef = v) : xs[i]?.getD undef = v := by rw [← Array.getD_eq_getD_getElem?]; exact h
theorem RdC.old {w : World} {A : Option Addr} {c : Nat} {cs : List Cell} (h : RdC w A c cs) (hn : 0 < cs.length) : ∀ ad, A = some ad → ad.block < w.heap.size := fun ad e => by
 obtain ⟨b, off, e', hlt, _⟩ := h.2.2 hn
 rw [e] at e'
 cases e'
 exact hlt
end Go.Proofs.YtppijfjigcoifaaDoor

namespace Go.Proofs.YtppijfjigcoifaaDoor
open Go.RowKit

def Sr.line (B : Nat) (cs : List Cell) (s : Bool) : Sr := ⟨fun u w => ∃ v, u = .agg #[v, .bool s] ∧ OwnC w B v cs, fun _ _ _ ⟨v, h1, h2⟩ hb => ⟨v, h1, h2.bel hb⟩⟩
def Sr.box (B g : Nat) (cs : List Cell) (s : Bool) : Sr := ⟨fun _ w => ∃ v, Blk w g 39 #[v, .bool s] ∧ OwnC w B v cs, fun _ _ _ ⟨v, h1, h2⟩ hb => ⟨v, h1.bel hb, h2.bel hb⟩⟩
end Go.Proofs.YtppijfjigcoifaaDoor

namespace Go.Proofs.YtppijfjigcoifaaDoor
open Go.RowKit

def RdL (w : World) (A : Option Addr) (c : Nat) (L : List Ln) : Prop := L.length ≤ c ∧ (A = none → c = 0) ∧ (0 < L.length → ∃ b off, A = some ⟨b, off, none⟩ ∧ b < w.heap.size ∧
 ∀ (i : Nat) (l : Ln), L[i]? = some l → ∃ A' c', w.cell? ⟨b, off + i * 2, none⟩ = some (.slice A' l.1.length c') ∧ w.cell? ⟨b, off + i * 2 + 1, none⟩ = some (.bool l.2) ∧ RdC w A' c' l.1)
section
variable {w w' : World} {A : Option Addr} {c : Nat} {L : List Ln}
theorem RdL.bel (h : RdL w A c L) (hb : Below w.heap.size w w') : RdL w' A c L := ⟨h.1, h.2.1, fun hn => by
 obtain ⟨b, off, rfl, hz, hr⟩ := h.2.2 hn
 refine ⟨b, off, rfl, by have := hb.size; omega, fun i l hl => ?_⟩
 obtain ⟨A', c', h1, h2, h3⟩ := hr i l hl
 exact ⟨A', c', (hb.cell (p := ⟨b, off + i * 2, none⟩) hz).trans h1, (hb.cell (p := ⟨b, off + i * 2 + 1, none⟩) hz).trans h2, h3.bel hb⟩⟩
theorem RdL.at_ (h : RdL w A c L) {i : Nat} {l : Ln} (hl : L[i]? = some l) : ∃ b off A' c', A = some ⟨b, off, none⟩ ∧ b < w.heap.size ∧ w.cell? ⟨b, off + i * 2, none⟩ = some (.slice A' l.1.length c') ∧ w.cell? ⟨b, off + i * 2 + 1, none⟩ = some (.bool l.2) ∧ RdC w A' c' l.1 := by
 have hi : i < L.length := (List.getElem?_eq_some_iff.1 hl).1
 obtain ⟨b, off, rfl, hz, hr⟩ := h.2.2 (by omega)
 obtain ⟨A', c', h1, h2, h3⟩ := hr i l hl
 exact ⟨b, off, A', c', rfl, hz, h1, h2, h3⟩
theorem RdL.nil (w : World) : RdL w none 0 [] := ⟨by simp, fun _ => rfl, fun h => by simp at h⟩
end
section
variable {w0 w w' : World} {os : List Ob} {v : Value} {bs : List Value} {L : List Ln} {m : Option Nat}
theorem own_form {B k n : Nat} {t : TypeId} {xs : List Value} (h : w.ownsRow B t k v n xs) : ∃ A c, v = .slice A n c ∧ n ≤ c ∧ c ≤ maxLen ∧ (A = none → c = 0) ∧ (0 < n → ∃ g, A = some ⟨g, 0, none⟩ ∧ g < w.heap.size ∧ (∀ j, j < n * k → w.cell? ⟨g, j, none⟩ = xs[j]?) ∧ ∀ j, w.frozen? ⟨g, j, none⟩ = false) := by
 rcases h.2 with ⟨rfl, h0⟩ | ⟨g, cap, cur, rfl, hb, hg, hnc, hm, hsz, htk⟩
 ·subst h0
  exact ⟨none, 0, rfl, Nat.le_refl _, by simp [maxLen], fun _ => rfl, fun h => by omega⟩
 ·refine ⟨_, cap, rfl, hnc, hm, (fun h => by cases h), fun hn => ⟨g, rfl, (show Blk w g t cur from hg).lt, fun j hj => ?_, fun j => (show Blk w g t cur from hg).frozen j⟩⟩
  rw [(show Blk w g t cur from hg).cell, ← htk, List.getElem?_take, if_pos hj]
  simp
theorem LinesAt.form (h : LinesAt w v bs L m) : ∃ A c, v = .slice A L.length c ∧ L.length ≤ c ∧ c ≤ maxLen ∧ (A = none → c = 0) ∧ (0 < L.length → ∃ g, A = some ⟨g, 0, none⟩ ∧ g < w.heap.size ∧ (∀ i b, bs[i]? = some b → w.cell? ⟨g, i * 2, none⟩ = some b) ∧ (∀ i l, L[i]? = some l → w.cell? ⟨g, i * 2 + 1, none⟩ = some (.bool l.2)) ∧ ∀ j, w.frozen? ⟨g, j, none⟩ = false) := by
 obtain ⟨A, c, rfl, h1, h2, h3, h4⟩ := own_form h.own
 refine ⟨A, c, rfl, h1, h2, h3, fun hn => ?_⟩
 obtain ⟨g, rfl, h5, h6, h7⟩ := h4 hn
 refine ⟨g, rfl, h5, fun i b hb => ?_, fun i l hl => ?_, h7⟩
 ·have hi : i < L.length := by rw [← h.len]; exact (List.getElem?_eq_some_iff.1 hb).1
  rw [h6 _ (by omega), hdrs_at0 h.len, hb]
 ·have hi : i < L.length := (List.getElem?_eq_some_iff.1 hl).1
  rw [h6 _ (by omega), hdrs_at1 h.len, hl]
  rfl
theorem LinesAt.rd (h : LinesAt w v bs L none) : ∃ A c, v = .slice A L.length c ∧ c ≤ maxLen ∧ RdL w A c L := by
 obtain ⟨A, c, rfl, h1, h2, h3, h4⟩ := h.form
 refine ⟨A, c, rfl, h2, h1, h3, fun hn => ?_⟩
 obtain ⟨g, rfl, h5, h6, h7, h8⟩ := h4 hn
 refine ⟨g, 0, rfl, h5, fun i l hl => ?_⟩
 have hi : i < L.length := (List.getElem?_eq_some_iff.1 hl).1
 have hb : bs[i]? = some (bs[i]'(by rw [h.len]; exact hi)) := by simp [h.len, hi]
 have ho := h.rows i _ l (by simp) hb hl
 obtain ⟨A', c', e, hr⟩ := ho.form
 refine ⟨A', c', ?_, ?_, hr⟩
 ·rw [Nat.zero_add, h6 i _ hb, e]
 ·rw [Nat.zero_add]; exact h7 i l hl
theorem Objs.linesRd (h : Objs w0 w os) {k : Nat} (hk : os[k]? = some (.lines v L)) : ∃ A c, v = .slice A L.length c ∧ c ≤ maxLen ∧ RdL w A c L := by
 obtain ⟨F, bs, hF, _⟩ := h.get hk
 exact hF.rd
theorem Objs.gridRd (h : Objs w0 w os) {k p : Nat} {t : TypeId} {cols : Int} (hk : os[k]? = some (.grid p t cols L)) : ∃ A c, Blk w p t #[.int .i64 cols, .slice A L.length c] ∧ c ≤ maxLen ∧ RdL w A c L := by
 obtain ⟨F, v, bs, hB, hF, _⟩ := h.get hk
 obtain ⟨A, c, rfl, hm, hr⟩ := hF.rd
 exact ⟨A, c, hB, hm, hr⟩

theorem Objs.openGrid (h : Objs w0 w os) {k p : Nat} {t : TypeId} {cols : Int} (hk : os[k]? = some (.grid p t cols L)) : ∃ v, Objs w0 w (.lines v L :: os.set k (.box p t #[.int .i64 cols, v])) := by
 obtain ⟨F, v, bs, hB, hF, hn, hFb⟩ := h.get hk
 refine ⟨v, h.split (w' := w) hk (fun F hF => ?_)⟩
 obtain ⟨v2, bs2, hB2, hF2, hn2, hFb2⟩ := hF
 obtain rfl : v = v2 := by have := hB.symm.trans hB2; simp at this; exact this
 exact ⟨fun b => b = p, LF v bs2 none, Chg.refl _ _, ⟨hB2, fun _ => Iff.rfl⟩, ⟨bs2, hF2, fun _ => Iff.rfl⟩, fun b hb hl => hn2 (by subst hb; exact hl), fun b hb => .inl ((hFb2 b).2 (.inl hb)), fun b hb => .inl ((hFb2 b).2 (.inr hb))⟩
theorem Objs.closeGrid {k p : Nat} {t : TypeId} {cols : Int} (h : Objs w0 w (.lines v L :: os)) (hk : os[k]? = some (.box p t #[.int .i64 cols, v])) : Objs w0 w (os.set k (.grid p t cols L)) := by
 have := h.join (w' := w) (k := k + 1) (j := 0) (o := .box p t #[.int .i64 cols, v]) (oj := .lines v L) (o' := .grid p t cols L) (oj' := .none) (by simpa using hk) rfl (by omega) (fun F G hF hG hd => by
  obtain ⟨bs, h1, h2⟩ := hG
  refine ⟨fun b => F b ∨ G b, fun _ => False, Chg.refl _ _, ⟨v, bs, hF.1, h1, fun hl => hd p ((hF.2 p).2 rfl) ((h2 p).2 hl), fun b => ?_⟩, fun _ hf => hf, fun _ _ hf => hf, fun b hb => hb.elim .inl (fun x => .inr (.inl x)), fun _ hf => hf.elim⟩
  simp only [hF.2, h2])
 simpa using this.tail
theorem LinesAt.same {bs2 : List Value} {m2 : Option Nat} (h : LinesAt w v bs L m) (g : LinesAt w v bs2 L m2) : bs2 = bs := by
 apply List.ext_getElem?
 intro n
 rcases Nat.lt_or_ge n L.length with hn | hn
 ·obtain ⟨A, c, rfl, q1, q2, q3, q4⟩ := own_form h.own
  obtain ⟨gg, rfl, q5, q6, q7⟩ := q4 (by omega)
  obtain ⟨A', c', e', p1, p2, p3, p4⟩ := own_form g.own
  obtain ⟨g', e'', p5, p6, p7⟩ := p4 (by omega)
  subst e''
  simp only [Value.slice.injEq, Option.some.injEq, Addr.mk.injEq, and_true, true_and] at e'
  obtain ⟨rfl, -⟩ := e'
  rw [← hdrs_at0 h.len, ← hdrs_at0 g.len, ← q6 _ (by omega), ← p6 _ (by omega)]
 ·rw [List.getElem?_eq_none (by rw [g.len]; exact hn), List.getElem?_eq_none (by rw [h.len]; exact hn)]
theorem Objs.openRow (h : Objs w0 w os) {k i : Nat} {l : Ln} (hk : os[k]? = some (.lines v L)) (hl : L[i]? = some l) : ∃ b, Objs w0 w (.cells b l.1 :: os.set k (.linesx v L i b)) := by
 obtain ⟨F, bs, h1, h2⟩ := h.get hk
 have hi : i < L.length := (List.getElem?_eq_some_iff.1 hl).1
 have hb : bs[i]? = some (bs[i]'(by rw [h1.len]; exact hi)) := by simp [h1.len, hi]
 refine ⟨bs[i]'(by rw [h1.len]; exact hi), h.split (w' := w) hk (fun F' hF' => ?_)⟩
 obtain ⟨bs3, g3, g4⟩ := hF'
 obtain rfl := h1.same g3
 refine ⟨LF v bs3 (some i), fun b => (bs3[i]'(by rw [g3.len]; exact hi)).ownBlock = some b, Chg.refl _ _, ⟨bs3, ⟨g3.len, g3.own, fun j b l hm hb hl => g3.rows j b l (by simp) hb hl, g3.dist⟩, hb, fun _ => Iff.rfl⟩, ⟨g3.rows i _ l (by simp) hb hl, fun _ => Iff.rfl⟩, fun b hb1 hb2 => ?_, fun b hb1 => .inl ((g4 b).2 ?_), fun b hb1 => .inl ((g4 b).2 (.inr ⟨i, _, by simp, hb, hb1⟩))⟩
 ·rcases hb1 with e | ⟨j, x, hm, hx, e⟩
  ·exact own_apart (by decide) g3.own (g3.rows i _ l (by simp) hb hl) e hb2
  ·exact hm (by rw [g3.dist i j _ _ _ hb hx hb2 e])
 ·rcases hb1 with e | ⟨j, x, hm, hx, e⟩
  ·exact .inl e
  ·exact .inr ⟨j, x, by simp, hx, e⟩
theorem hdrs_set {bs : List Value} {L : List Ln} (h : bs.length = L.length) (i : Nat) (l : Ln) (hl : (L[i]?).map (·.2) = some l.2) : hdrs bs (L.set i l) = hdrs bs L := by
 induction bs generalizing L i with
 | nil => cases L with | nil => rfl | cons a L => simp at h
 | cons b bs ih => cases L with
  | nil => simp at h
  | cons a L => cases i with
   | zero => simp at hl; rw [List.set_cons_zero, hdrs_cons, hdrs_cons, hl]
   | succ i => rw [List.set_cons_succ, hdrs_cons, hdrs_cons, ih (by simpa using h) i (by simpa using hl)]
theorem Objs.closeRow {k i : Nat} {b : Value} {cs : List Cell} {s : Bool} (h : Objs w0 w (.cells b cs :: os)) (hk : os[k]? = some (.linesx v L i b)) (hs : (L[i]?).map (·.2) = some s) : Objs w0 w (os.set k (.lines v (L.set i (cs, s)))) := by
 have := h.join (w' := w) (k := k + 1) (j := 0) (o := .linesx v L i b) (oj := .cells b cs) (o' := .lines v (L.set i (cs, s))) (oj' := .none) (by simpa using hk) rfl (by omega) (fun F G hF hG hd => by
  obtain ⟨bs, h1, h3, h2⟩ := hF
  refine ⟨fun b => F b ∨ G b, fun _ => False, Chg.refl _ _, ⟨bs, ⟨by simpa using h1.len, ?_, fun j x l hm hx hl => ?_, h1.dist⟩, fun y => ?_⟩, fun _ hf => hf, fun _ _ hf => hf, fun b hb => hb.elim .inl (fun x => .inr (.inl x)), fun _ hf => hf.elim⟩
  ·rw [List.length_set, hdrs_set h1.len i (cs, s) hs]; exact h1.own
  ·by_cases hj : i = j
   ·subst hj
    rw [h3] at hx; cases hx
    have hil : i < L.length := by rw [← h1.len]; exact (List.getElem?_eq_some_iff.1 h3).1
    rw [List.getElem?_set_self hil] at hl; cases hl
    exact hG.1
   ·rw [List.getElem?_set_ne hj] at hl
    exact h1.rows j x l (by simpa using hj) hx hl
  ·show F y ∨ G y ↔ _
   rw [h2, hG.2]
   constructor
   ·rintro ((e | ⟨j, x, hm, hx, e⟩) | e)
    ·exact .inl e
    ·exact .inr ⟨j, x, by simp, hx, e⟩
    ·exact .inr ⟨i, b, by simp, h3, e⟩
   ·rintro (e | ⟨j, x, hm, hx, e⟩)
    ·exact .inl (.inl e)
    ·by_cases hj : i = j
     ·subst hj; rw [h3] at hx; cases hx; exact .inr e
     ·exact .inl (.inr ⟨j, x, by simpa using hj, hx, e⟩))
 simpa using this.tail
theorem Objs.linesxRd (h : Objs w0 w os) {k i : Nat} {b : Value} (hk : os[k]? = some (.linesx v L i b)) : ∃ g c, v = .slice (some ⟨g, 0, none⟩) L.length c ∧ L.length ≤ c ∧ c ≤ maxLen ∧ i < L.length ∧ g < w.heap.size ∧ w.cell? ⟨g, i * 2, none⟩ = some b ∧ (∀ l, L[i]? = some l → w.cell? ⟨g, i * 2 + 1, none⟩ = some (.bool l.2)) ∧ ∀ j, w.frozen? ⟨g, j, none⟩ = false := by
 obtain ⟨F, bs, h1, h3, h2⟩ := h.get hk
 have hi : i < L.length := by rw [← h1.len]; exact (List.getElem?_eq_some_iff.1 h3).1
 obtain ⟨A, c, rfl, q1, q2, q3, q4⟩ := h1.form
 obtain ⟨g, rfl, q5, q6, q7, q8⟩ := q4 (by omega)
 exact ⟨g, c, rfl, q1, q2, hi, q5, q6 i b h3, q7 i, q8⟩
theorem Objs.cellsUpd {k : Nat} {cs cs' : List Cell} (hS : Objs w0 w os) (hk : os[k]? = some (.cells v cs)) (ho : OwnC w' 0 v cs') (hg : w.grownBy w' v.ownBlock) : Objs w0 w' (os.set k (.cells v cs')) :=
 hS.upd hk (fun F hF => ⟨F, Chg.of_grown hg F (fun b hb => (hF.2 b).2 hb), ⟨ho, hF.2⟩, fun b hb => .inl hb⟩)
end
end Go.Proofs.YtppijfjigcoifaaDoor

namespace Go.Proofs.YtppijfjigcoifaaDoor
open Go.RowKit

def brk (c : Nat) (cs : List Cell) : List Cell := match c with
 | 0 => cs
 | m + 1 => if m + 1 < cs.length ∧ (cAt cs m).width = 2 then (cs.set m (blank (cAt cs m).pen)).set (m + 1) (blank (cAt cs (m + 1)).pen) else cs
theorem brk_succ (m : Nat) (cs : List Cell) : brk (m + 1) cs = if m + 1 < cs.length ∧ (cAt cs m).width = 2 then (cs.set m (blank (cAt cs m).pen)).set (m + 1) (blank (cAt cs (m + 1)).pen) else cs := rfl
theorem brk_length (c : Nat) (cs : List Cell) : (brk c cs).length = cs.length := by
 cases c with
 | zero => rfl
 | succ m => rw [brk_succ]; split <;> simp
theorem cells_facts {w0 w : World} {os : List Ob} {k g n cap i : Nat} {cs : List Cell} {c : Cell} (S : Objs w0 w os) (hk : os[k]? = some (.cells (.slice (some ⟨g, 0, none⟩) n cap) cs)) (hi : cs[i]? = some c) :
  w.cell? ⟨g, i * 16 + 4, none⟩ = some (.int .i64 c.width) ∧ penAt w g (i * 16 + 5) = some c.pen ∧ cellAt w g (i * 16) = some c ∧ (∀ j, w.frozen? ⟨g, j, none⟩ = false) ∧ g < w.heap.size := by
 have hlt : i < cs.length := (List.getElem?_eq_some_iff.1 hi).1
 have ho := S.own hk
 obtain ⟨g', e, -, -, hz, hr⟩ := ho.head (by omega)
 cases e
 obtain ⟨h1, h2, h3⟩ := own_elem hr hlt (c := c) (by simpa [hlt] using hi)
 exact ⟨h1, h2, h3, fun j => OwnC.free ho j, hz⟩
theorem r14Blank_any (p : Pen) (w : World) : Calls Tryd.prog 39 #[.agg (pv p)] w fun e w' => e = .returned (.agg (cv (blank p))) ∧ Below w.heap.size w w' := by
 go_enter Tryd.func39, Tryd.ntmps39
 go_wp2
 exact bodyPost_ret (results_cell_row Tryd.results39 _ _ (w.heap.size + 1) 71 (cv (blank p)) (0, 0) _ rfl (heap_alloc2_new w _ _) Tryd.underlying71 rfl cell_size) rfl ⟨rfl, ((Below.refl _ _).alloc (Nat.le_refl _) _).alloc (by simp) _⟩
theorem front_call {P : Program} {f : FuncId} {args : Array Value} {k : Nat} {o o' : Ob} {r : Value} {w0 w : World} {os : List Ob} (hS : Objs w0 w os) (hk : os[k]? = some o)
  (hc : ∀ os1, Objs w0 w (o :: os1) → Calls P f args w fun e w' => e = .returned r ∧ Objs w0 w' (o' :: os1)) : Calls P f args w fun e w' => e = .returned r ∧ Objs w0 w' (os.set k o') :=
 (hc _ (hS.lift hk)).mono fun e w' ⟨h1, h2⟩ => ⟨h1, h2.lower hk⟩

set_option maxRecDepth 100000 in
set_option maxHeartbeats 2000000 in
theorem split_front (A : Option Addr) (cap : Nat) (cs : List Cell) (n : Int) (c : Nat) (hn : n = (c : Int)) (w0 w : World) (os : List Ob) (hS : Objs w0 w (.cells (.slice A cs.length cap) cs :: os)) (hlen : cs.length ≤ 1000000) (hc : c ≤ 2000000) :
  Calls Tryd.prog 73 #[.slice A cs.length cap, .int .i64 n] w fun e w' => e = .returned (.tuple #[]) ∧ Objs w0 w' (.cells (.slice A cs.length cap) (brk c cs) :: os) := by
 subst hn
 have S := Lib.hid hS
 clear hS
 cases c with
 | zero =>
  show Calls _ _ #[_, .int .i64 0] _ _
  go_enter Tryd.func73, Tryd.ntmps73
  go_wp2_with fail
  refine bodyPost_ret (results_none rfl _ _ _) rfl ?_
  exact ⟨rfl, S.out⟩
 | succ m =>
 simp only [Int.natCast_add, Int.natCast_one]
 by_cases hlt : m + 1 < cs.length
 case neg =>
  have HB := Lib.hid (show brk (m + 1) cs = cs by rw [brk_succ, if_neg (by omega)])
  have hge : ¬ ((m : Int) + 1 < cs.length) := by omega
  go_enter Tryd.func73, Tryd.ntmps73
  go_wp2_with fail
  refine bodyPost_ret (results_none rfl _ _ _) rfl ?_
  exact ⟨rfl, by rw [HB.out]; exact S.out⟩
 obtain ⟨g, rfl, -, -, -, -⟩ := (S.out.own (k := 0) rfl).head (by omega)
 have hat0 : cs[m]? = some (cAt cs m) := by rw [cAt_eq (by omega)]; simp [show m < cs.length by omega]
 have hat1 : cs[m + 1]? = some (cAt cs (m + 1)) := by rw [cAt_eq hlt]; simp [hlt]
 by_cases hw : (cAt cs m).width = 2
 case neg =>
  have HB := Lib.hid (show brk (m + 1) cs = cs by rw [brk_succ, if_neg (by simp [hw])])
  obtain ⟨hx, -⟩ := cells_facts S.out (k := 0) rfl hat0
  have hw1 := beq_no hw
  have hw2 := bne_yes hw
  clear hat0 hat1 hw
  go_enter Tryd.func73, Tryd.ntmps73
  go_wp2_with fail
  refine bodyPost_ret (results_none rfl _ _ _) rfl ?_
  exact ⟨rfl, by rw [HB.out]; exact S.out⟩
 have HB := Lib.hid (show brk (m + 1) cs = (cs.set m (blank (cAt cs m).pen)).set (m + 1) (blank (cAt cs (m + 1)).pen) by rw [brk_succ, if_pos ⟨hlt, hw⟩])
 obtain ⟨hx, -⟩ := cells_facts S.out (k := 0) rfl hat0
 have hw1 := beq_yes hw
 have hw2 := bne_no hw
 have HW := Lib.hid hw
 clear hw
 go_enter Tryd.func73, Tryd.ntmps73
 go_upto_region 1 with (fail)
 ·clear hx hw1 hw2
  have hwm : IntKind.i64.wrap (m : Int) = (m : Int) := IntWalk.i64_in _ (by omega)
  have hb0 : (0 : Int) ≤ (m : Int) := by omega
  have hb1 : (m : Int) < (cs.length : Int) := by omega
  have hb2 : (0 : Int) ≤ (m : Int) + 1 := by omega
  have hb3 : (m : Int) + 1 < (cs.length : Int) := by omega
  have ht1 : ((m : Int) + 1).toNat = m + 1 := by omega
  refine wp_region_stage (w0 := w0) (os := os) (by kernel_rfl) (by kernel_rfl) (by kernel_rfl) [(0, 19, [], fun vs => .cells (.slice (some ⟨g, 0, none⟩) cs.length cap) (cs.set m (blank (cAt cs m).pen))), (0, 21, [], fun vs => .cells (.slice (some ⟨g, 0, none⟩) cs.length cap) ((cs.set m (blank (cAt cs m).pen)).set (m + 1) (blank (cAt cs (m + 1)).pen)))] [[], [], [], [], [], [], [], [], [], [], [0], [], [], [], [], [], [0], [], [], [0], [], [0]] [.cells (.slice (some ⟨g, 0, none⟩) cs.length cap) cs] (fun i u => match i with | 0 => u = .slice (some ⟨g, 0, none⟩) cs.length cap | 1 => u = .int .i64 (↑m + 1) | 2 => u = .int .i64 ↑m | 3 => u = .slice (some ⟨g, 0, none⟩) cs.length cap | 4 => u = .int .i64 (↑m + 1) | 5 => u = .slice (some ⟨g, 0, none⟩) cs.length cap | 6 => u = .int .i64 (↑m + 1) | 7 => u = .int .i64 ↑m | 8 => u = .pointer (some ⟨g, m * 16, none⟩) | 9 => u = .pointer (some ⟨g, m * 16 + 5, none⟩) | 10 => u = .agg (pv (cAt cs m).pen) | 11 => u = .agg (cv (blank (cAt cs m).pen)) | 12 => u = .slice (some ⟨g, 0, none⟩) cs.length cap | 13 => u = .int .i64 (↑m + 1) | 14 => u = .pointer (some ⟨g, (m + 1) * 16, none⟩) | 15 => u = .pointer (some ⟨g, (m + 1) * 16 + 5, none⟩) | 16 => u = .agg (pv (cAt cs (m + 1)).pen) | 17 => u = .agg (cv (blank (cAt cs (m + 1)).pen)) | 18 => u = .pointer (some ⟨g, m * 16, none⟩) | 19 => True | 20 => u = .pointer (some ⟨g, (m + 1) * 16, none⟩) | 21 => True | _ => True) (fun vs => [.cells (.slice (some ⟨g, 0, none⟩) cs.length cap) ((cs.set m (blank (cAt cs m).pen)).set (m + 1) (blank (cAt cs (m + 1)).pen))]) (by kernel_rfl) (fun vs => by rfl) S.out ?_ ?_
  ·apply sc
   ·intro a w' vs σ hS hl hs hk
    have f0 : a.tmps[0]?.getD undef = .slice (some ⟨g, 0, none⟩) cs.length cap := sof hk
    exact rp (.slice (some ⟨g, 0, none⟩) cs.length cap) (by simp [execOp, Act.eval, f0, go_sem]) hl hs hS
   apply sc
   ·intro a w' vs σ hS hl hs hk
    have f1 : a.tmps[1]?.getD undef = .int .i64 (↑m + 1) := sof hk
    exact rp (.int .i64 (↑m + 1)) (by simp [execOp, Act.eval, f1, go_sem]) hl hs hS
   apply sc
   ·intro a w' vs σ hS hl hs hk
    have f22 : a.tmps[22]?.getD undef = .int .i64 (↑m + 1) := svf hk 1
    exact rp (.int .i64 ↑m) (by simp [execOp, Act.eval, f22, go_sem, hwm]) hl hs hS
   apply sc
   ·intro a w' vs σ hS hl hs hk
    have f0 : a.tmps[0]?.getD undef = .slice (some ⟨g, 0, none⟩) cs.length cap := sof hk
    exact rp (.slice (some ⟨g, 0, none⟩) cs.length cap) (by simp [execOp, Act.eval, f0, go_sem]) hl hs hS
   apply sc
   ·intro a w' vs σ hS hl hs hk
    have f1 : a.tmps[1]?.getD undef = .int .i64 (↑m + 1) := sof hk
    exact rp (.int .i64 (↑m + 1)) (by simp [execOp, Act.eval, f1, go_sem]) hl hs hS
   apply sc
   ·intro a w' vs σ hS hl hs hk
    have f0 : a.tmps[0]?.getD undef = .slice (some ⟨g, 0, none⟩) cs.length cap := sof hk
    exact rp (.slice (some ⟨g, 0, none⟩) cs.length cap) (by simp [execOp, Act.eval, f0, go_sem]) hl hs hS
   apply sc
   ·intro a w' vs σ hS hl hs hk
    have f1 : a.tmps[1]?.getD undef = .int .i64 (↑m + 1) := sof hk
    exact rp (.int .i64 (↑m + 1)) (by simp [execOp, Act.eval, f1, go_sem]) hl hs hS
   apply sc
   ·intro a w' vs σ hS hl hs hk
    have f27 : a.tmps[27]?.getD undef = .int .i64 (↑m + 1) := svf hk 6
    exact rp (.int .i64 ↑m) (by simp [execOp, Act.eval, f27, go_sem, hwm]) hl hs hS
   apply sc
   ·intro a w' vs σ hS hl hs hk
    have f26 : a.tmps[26]?.getD undef = .slice (some ⟨g, 0, none⟩) cs.length cap := svf hk 5
    have f28 : a.tmps[28]?.getD undef = .int .i64 ↑m := svf hk 7
    exact rp (pt g (m * 16)) (by simp [execOp, Act.eval, f26, f28, go_sem, hb0, hb1]) hl hs hS
   apply sc
   ·intro a w' vs σ hS hl hs hk
    have f29 : a.tmps[29]?.getD undef = .pointer (some ⟨g, m * 16, none⟩) := svf hk 8
    exact rp (pt g (m * 16 + 5)) (by simp [execOp, Act.eval, f29, go_sem]) hl hs hS
   apply sc
   ·intro a w' vs σ hS hl hs hk
    have f30 : a.tmps[30]?.getD undef = .pointer (some ⟨g, m * 16 + 5, none⟩) := svf hk 9
    have hc := cells_facts hS (sg (hs 0 (by decide))) (i := m) (c := cAt cs m) hat0
    have hx := hc.2.1
    exact rp (.agg (pv (cAt cs m).pen)) (by simp [execOp, Act.eval, f30, go_sem, hx]) hl hs hS
   apply sc
   ·intro a w' vs σ hS hl hs hk
    have e31 : a.tmps.getD 31 undef = .agg (pv (cAt cs m).pen) := svv hk 10
    exact ro_call (f := 78) (wanted_none rfl) rfl (by simp only [List.map_toArray, List.map_cons, List.map_nil, Act.eval, e31] <;> rfl) (fun _ _ => by kernel_rfl) ((cellBlank_any _ w').mono fun e w2 ⟨h1, h2⟩ => ⟨_, h1, sp_same (by kernel_rfl) hl hs (hS.bel h2) rfl, trivial⟩)
   apply sc
   ·intro a w' vs σ hS hl hs hk
    have f0 : a.tmps[0]?.getD undef = .slice (some ⟨g, 0, none⟩) cs.length cap := sof hk
    exact rp (.slice (some ⟨g, 0, none⟩) cs.length cap) (by simp [execOp, Act.eval, f0, go_sem]) hl hs hS
   apply sc
   ·intro a w' vs σ hS hl hs hk
    have f1 : a.tmps[1]?.getD undef = .int .i64 (↑m + 1) := sof hk
    exact rp (.int .i64 (↑m + 1)) (by simp [execOp, Act.eval, f1, go_sem]) hl hs hS
   apply sc
   ·intro a w' vs σ hS hl hs hk
    have f33 : a.tmps[33]?.getD undef = .slice (some ⟨g, 0, none⟩) cs.length cap := svf hk 12
    have f34 : a.tmps[34]?.getD undef = .int .i64 (↑m + 1) := svf hk 13
    exact rp (pt g ((m + 1) * 16)) (by simp [execOp, Act.eval, f33, f34, go_sem, hb2, hb3, ht1]) hl hs hS
   apply sc
   ·intro a w' vs σ hS hl hs hk
    have f35 : a.tmps[35]?.getD undef = .pointer (some ⟨g, (m + 1) * 16, none⟩) := svf hk 14
    exact rp (pt g ((m + 1) * 16 + 5)) (by simp [execOp, Act.eval, f35, go_sem]) hl hs hS
   apply sc
   ·intro a w' vs σ hS hl hs hk
    have f36 : a.tmps[36]?.getD undef = .pointer (some ⟨g, (m + 1) * 16 + 5, none⟩) := svf hk 15
    have hc := cells_facts hS (sg (hs 0 (by decide))) (i := m + 1) (c := cAt cs (m + 1)) hat1
    have hx := hc.2.1
    exact rp (.agg (pv (cAt cs (m + 1)).pen)) (by simp [execOp, Act.eval, f36, go_sem, hx]) hl hs hS
   apply sc
   ·intro a w' vs σ hS hl hs hk
    have e37 : a.tmps.getD 37 undef = .agg (pv (cAt cs (m + 1)).pen) := svv hk 16
    exact ro_call (f := 78) (wanted_none rfl) rfl (by simp only [List.map_toArray, List.map_cons, List.map_nil, Act.eval, e37] <;> rfl) (fun _ _ => by kernel_rfl) ((cellBlank_any _ w').mono fun e w2 ⟨h1, h2⟩ => ⟨_, h1, sp_same (by kernel_rfl) hl hs (hS.bel h2) rfl, trivial⟩)
   apply sc
   ·intro a w' vs σ hS hl hs hk
    have f21 : a.tmps[21]?.getD undef = .slice (some ⟨g, 0, none⟩) cs.length cap := svf hk 0
    have f23 : a.tmps[23]?.getD undef = .int .i64 ↑m := svf hk 2
    exact rp (pt g (m * 16)) (by simp [execOp, Act.eval, f21, f23, go_sem, hb0, hb1]) hl hs hS
   apply sc
   ·intro a w' vs σ hS hl hs hk
    have f39 : a.tmps[39]?.getD undef = .pointer (some ⟨g, m * 16, none⟩) := svf hk 18
    have f32 : a.tmps[32]?.getD undef = .agg (cv (blank (cAt cs m).pen)) := svf hk 11
    obtain ⟨W, hst, ho, hg⟩ := (hS.own (sg (hs 0 (by decide)))).putAt (k := m) (by omega) (blank (cAt cs m).pen)
    exact rstep_store (wanted_none rfl) rfl (by simp [execOp, Act.eval, f39, f32, hst, go_sem]) (sp_set 0 (.cells (.slice (some ⟨g, 0, none⟩) cs.length cap) (cs.set m (blank (cAt cs m).pen))) (by kernel_rfl) (by simp) (by decide) hl hs (by rfl) (hS.cellsUpd (sg (hs 0 (by decide))) ho hg) trivial) trivial
   apply sc
   ·intro a w' vs σ hS hl hs hk
    have f24 : a.tmps[24]?.getD undef = .slice (some ⟨g, 0, none⟩) cs.length cap := svf hk 3
    have f25 : a.tmps[25]?.getD undef = .int .i64 (↑m + 1) := svf hk 4
    exact rp (pt g ((m + 1) * 16)) (by simp [execOp, Act.eval, f24, f25, go_sem, hb2, hb3, ht1]) hl hs hS
   apply sc
   ·intro a w' vs σ hS hl hs hk
    have f40 : a.tmps[40]?.getD undef = .pointer (some ⟨g, (m + 1) * 16, none⟩) := svf hk 20
    have f38 : a.tmps[38]?.getD undef = .agg (cv (blank (cAt cs (m + 1)).pen)) := svf hk 17
    obtain ⟨W, hst, ho, hg⟩ := (hS.own (sg (hs 0 (by decide)))).putAt (k := m + 1) (by simp; omega) (blank (cAt cs (m + 1)).pen)
    exact rstep_store (wanted_none rfl) rfl (by simp [execOp, Act.eval, f40, f38, hst, go_sem]) (sp_set 0 (.cells (.slice (some ⟨g, 0, none⟩) cs.length cap) ((cs.set m (blank (cAt cs m).pen)).set (m + 1) (blank (cAt cs (m + 1)).pen))) (by kernel_rfl) (by simp) (by decide) hl hs (by rfl) (hS.cellsUpd (sg (hs 0 (by decide))) ho hg) trivial) trivial
   exact SSteps.nil
  ·intro vs w' hS hv
   have q0 : vs 0 = _ := hv 0 (by decide)
   have q1 : vs 1 = _ := hv 1 (by decide)
   have q2 : vs 2 = _ := hv 2 (by decide)
   have q3 : vs 3 = _ := hv 3 (by decide)
   have q4 : vs 4 = _ := hv 4 (by decide)
   have q5 : vs 5 = _ := hv 5 (by decide)
   have q6 : vs 6 = _ := hv 6 (by decide)
   have q7 : vs 7 = _ := hv 7 (by decide)
   have q8 : vs 8 = _ := hv 8 (by decide)
   have q9 : vs 9 = _ := hv 9 (by decide)
   have q10 : vs 10 = _ := hv 10 (by decide)
   have q11 : vs 11 = _ := hv 11 (by decide)
   have q12 : vs 12 = _ := hv 12 (by decide)
   have q13 : vs 13 = _ := hv 13 (by decide)
   have q14 : vs 14 = _ := hv 14 (by decide)
   have q15 : vs 15 = _ := hv 15 (by decide)
   have q16 : vs 16 = _ := hv 16 (by decide)
   have q17 : vs 17 = _ := hv 17 (by decide)
   have q18 : vs 18 = _ := hv 18 (by decide)
   have q20 : vs 20 = _ := hv 20 (by decide)
   have S2 := Lib.hid hS
   simp only [putL, Act.put, Nat.zero_add, Nat.reduceAdd, List.setIfInBounds_toArray, List.set_cons_succ, List.set_cons_zero, q0, q1, q2, q3, q4, q5, q6, q7, q8, q9, q10, q11, q12, q13, q14, q15, q16, q17, q18, q20]
   clear hS hv q0 q1 q2 q3 q4 q5 q6 q7 q8 q9 q10 q11 q12 q13 q14 q15 q16 q17 q18 q20
   go_wp2_with fail
   go_end0
   exact ⟨rfl, by rw [HB.out]; exact S2.out⟩
set_option maxRecDepth 100000 in
set_option maxHeartbeats 2000000 in
theorem break_front (A : Option Addr) (cap : Nat) (cs : List Cell) (n : Int) (c : Nat) (hn : n = (c : Int)) (w0 w : World) (os : List Ob) (hS : Objs w0 w (.cells (.slice A cs.length cap) cs :: os)) (hlen : cs.length ≤ 1000000) (hc : c ≤ 2000000) :
  Calls Tryd.prog 75 #[.slice A cs.length cap, .int .i64 n] w fun e w' => e = .returned (.tuple #[]) ∧ Objs w0 w' (.cells (.slice A cs.length cap) (brk c cs) :: os) := by
 subst hn
 have S := Lib.hid hS
 clear hS
 cases c with
 | zero =>
  show Calls _ _ #[_, .int .i64 0] _ _
  go_enter Tryd.func75, Tryd.ntmps75
  go_wp2_with fail
  go_end0
  exact ⟨rfl, S.out⟩
 | succ m =>
 simp only [Int.natCast_add, Int.natCast_one]
 by_cases hlt : m + 1 < cs.length
 case neg =>
  have HB := Lib.hid (show brk (m + 1) cs = cs by rw [brk_succ, if_neg (by omega)])
  have hge : ¬ ((m : Int) + 1 < cs.length) := by omega
  go_enter Tryd.func75, Tryd.ntmps75
  go_wp2_with fail
  go_end0
  exact ⟨rfl, by rw [HB.out]; exact S.out⟩
 obtain ⟨g, rfl, -, -, -, -⟩ := (S.out.own (k := 0) rfl).head (by omega)
 have hat0 : cs[m]? = some (cAt cs m) := by rw [cAt_eq (by omega)]; simp [show m < cs.length by omega]
 have hat1 : cs[m + 1]? = some (cAt cs (m + 1)) := by rw [cAt_eq hlt]; simp [hlt]
 by_cases hw : (cAt cs m).width = 2
 case neg =>
  have HB := Lib.hid (show brk (m + 1) cs = cs by rw [brk_succ, if_neg (by simp [hw])])
  obtain ⟨hx, -⟩ := cells_facts S.out (k := 0) rfl hat0
  have hw1 := beq_no hw
  have hw2 := bne_yes hw
  clear hat0 hat1 hw
  go_enter Tryd.func75, Tryd.ntmps75
  go_wp2_with fail
  go_end0
  exact ⟨rfl, by rw [HB.out]; exact S.out⟩
 have HB := Lib.hid (show brk (m + 1) cs = (cs.set m (blank (cAt cs m).pen)).set (m + 1) (blank (cAt cs (m + 1)).pen) by rw [brk_succ, if_pos ⟨hlt, hw⟩])
 obtain ⟨hx, -⟩ := cells_facts S.out (k := 0) rfl hat0
 have hw1 := beq_yes hw
 have hw2 := bne_no hw
 have HW := Lib.hid hw
 clear hw
 go_enter Tryd.func75, Tryd.ntmps75
 go_upto_region 1 with (fail)
 ·clear hx hw1 hw2
  have hwm : IntKind.i64.wrap (m : Int) = (m : Int) := IntWalk.i64_in _ (by omega)
  have hb0 : (0 : Int) ≤ (m : Int) := by omega
  have hb1 : (m : Int) < (cs.length : Int) := by omega
  have hb2 : (0 : Int) ≤ (m : Int) + 1 := by omega
  have hb3 : (m : Int) + 1 < (cs.length : Int) := by omega
  have ht1 : ((m : Int) + 1).toNat = m + 1 := by omega
  refine wp_region_stage (w0 := w0) (os := os) (by kernel_rfl) (by kernel_rfl) (by kernel_rfl) [(0, 19, [], fun vs => .cells (.slice (some ⟨g, 0, none⟩) cs.length cap) (cs.set m (blank (cAt cs m).pen))), (0, 21, [], fun vs => .cells (.slice (some ⟨g, 0, none⟩) cs.length cap) ((cs.set m (blank (cAt cs m).pen)).set (m + 1) (blank (cAt cs (m + 1)).pen)))] [[], [], [], [], [], [], [], [], [], [], [0], [], [], [], [], [], [0], [], [], [0], [], [0]] [.cells (.slice (some ⟨g, 0, none⟩) cs.length cap) cs] (fun i u => match i with | 0 => u = .slice (some ⟨g, 0, none⟩) cs.length cap | 1 => u = .int .i64 (↑m + 1) | 2 => u = .int .i64 ↑m | 3 => u = .slice (some ⟨g, 0, none⟩) cs.length cap | 4 => u = .int .i64 (↑m + 1) | 5 => u = .slice (some ⟨g, 0, none⟩) cs.length cap | 6 => u = .int .i64 (↑m + 1) | 7 => u = .int .i64 ↑m | 8 => u = .pointer (some ⟨g, m * 16, none⟩) | 9 => u = .pointer (some ⟨g, m * 16 + 5, none⟩) | 10 => u = .agg (pv (cAt cs m).pen) | 11 => u = .agg (cv (blank (cAt cs m).pen)) | 12 => u = .slice (some ⟨g, 0, none⟩) cs.length cap | 13 => u = .int .i64 (↑m + 1) | 14 => u = .pointer (some ⟨g, (m + 1) * 16, none⟩) | 15 => u = .pointer (some ⟨g, (m + 1) * 16 + 5, none⟩) | 16 => u = .agg (pv (cAt cs (m + 1)).pen) | 17 => u = .agg (cv (blank (cAt cs (m + 1)).pen)) | 18 => u = .pointer (some ⟨g, m * 16, none⟩) | 19 => True | 20 => u = .pointer (some ⟨g, (m + 1) * 16, none⟩) | 21 => True | _ => True) (fun vs => [.cells (.slice (some ⟨g, 0, none⟩) cs.length cap) ((cs.set m (blank (cAt cs m).pen)).set (m + 1) (blank (cAt cs (m + 1)).pen))]) (by kernel_rfl) (fun vs => by rfl) S.out ?_ ?_
  ·apply sc
   ·intro a w' vs σ hS hl hs hk
    have f0 : a.tmps[0]?.getD undef = .slice (some ⟨g, 0, none⟩) cs.length cap := sof hk
    exact rp (.slice (some ⟨g, 0, none⟩) cs.length cap) (by simp [execOp, Act.eval, f0, go_sem]) hl hs hS
   apply sc
   ·intro a w' vs σ hS hl hs hk
    have f1 : a.tmps[1]?.getD undef = .int .i64 (↑m + 1) := sof hk
    exact rp (.int .i64 (↑m + 1)) (by simp [execOp, Act.eval, f1, go_sem]) hl hs hS
   apply sc
   ·intro a w' vs σ hS hl hs hk
    have f22 : a.tmps[22]?.getD undef = .int .i64 (↑m + 1) := svf hk 1
    exact rp (.int .i64 ↑m) (by simp [execOp, Act.eval, f22, go_sem, hwm]) hl hs hS
   apply sc
   ·intro a w' vs σ hS hl hs hk
    have f0 : a.tmps[0]?.getD undef = .slice (some ⟨g, 0, none⟩) cs.length cap := sof hk
    exact rp (.slice (some ⟨g, 0, none⟩) cs.length cap) (by simp [execOp, Act.eval, f0, go_sem]) hl hs hS
   apply sc
   ·intro a w' vs σ hS hl hs hk
    have f1 : a.tmps[1]?.getD undef = .int .i64 (↑m + 1) := sof hk
    exact rp (.int .i64 (↑m + 1)) (by simp [execOp, Act.eval, f1, go_sem]) hl hs hS
   apply sc
   ·intro a w' vs σ hS hl hs hk
    have f0 : a.tmps[0]?.getD undef = .slice (some ⟨g, 0, none⟩) cs.length cap := sof hk
    exact rp (.slice (some ⟨g, 0, none⟩) cs.length cap) (by simp [execOp, Act.eval, f0, go_sem]) hl hs hS
   apply sc
   ·intro a w' vs σ hS hl hs hk
    have f1 : a.tmps[1]?.getD undef = .int .i64 (↑m + 1) := sof hk
    exact rp (.int .i64 (↑m + 1)) (by simp [execOp, Act.eval, f1, go_sem]) hl hs hS
   apply sc
   ·intro a w' vs σ hS hl hs hk
    have f27 : a.tmps[27]?.getD undef = .int .i64 (↑m + 1) := svf hk 6
    exact rp (.int .i64 ↑m) (by simp [execOp, Act.eval, f27, go_sem, hwm]) hl hs hS
   apply sc
   ·intro a w' vs σ hS hl hs hk
    have f26 : a.tmps[26]?.getD undef = .slice (some ⟨g, 0, none⟩) cs.length cap := svf hk 5
    have f28 : a.tmps[28]?.getD undef = .int .i64 ↑m := svf hk 7
    exact rp (pt g (m * 16)) (by simp [execOp, Act.eval, f26, f28, go_sem, hb0, hb1]) hl hs hS
   apply sc
   ·intro a w' vs σ hS hl hs hk
    have f29 : a.tmps[29]?.getD undef = .pointer (some ⟨g, m * 16, none⟩) := svf hk 8
    exact rp (pt g (m * 16 + 5)) (by simp [execOp, Act.eval, f29, go_sem]) hl hs hS
   apply sc
   ·intro a w' vs σ hS hl hs hk
    have f30 : a.tmps[30]?.getD undef = .pointer (some ⟨g, m * 16 + 5, none⟩) := svf hk 9
    have hc := cells_facts hS (sg (hs 0 (by decide))) (i := m) (c := cAt cs m) hat0
    have hx := hc.2.1
    exact rp (.agg (pv (cAt cs m).pen)) (by simp [execOp, Act.eval, f30, go_sem, hx]) hl hs hS
   apply sc
   ·intro a w' vs σ hS hl hs hk
    have e31 : a.tmps.getD 31 undef = .agg (pv (cAt cs m).pen) := svv hk 10
    exact ro_call (f := 39) (wanted_none rfl) rfl (by simp only [List.map_toArray, List.map_cons, List.map_nil, Act.eval, e31] <;> rfl) (fun _ _ => by kernel_rfl) ((r14Blank_any _ w').mono fun e w2 ⟨h1, h2⟩ => ⟨_, h1, sp_same (by kernel_rfl) hl hs (hS.bel h2) rfl, trivial⟩)
   apply sc
   ·intro a w' vs σ hS hl hs hk
    have f0 : a.tmps[0]?.getD undef = .slice (some ⟨g, 0, none⟩) cs.length cap := sof hk
    exact rp (.slice (some ⟨g, 0, none⟩) cs.length cap) (by simp [execOp, Act.eval, f0, go_sem]) hl hs hS
   apply sc
   ·intro a w' vs σ hS hl hs hk
    have f1 : a.tmps[1]?.getD undef = .int .i64 (↑m + 1) := sof hk
    exact rp (.int .i64 (↑m + 1)) (by simp [execOp, Act.eval, f1, go_sem]) hl hs hS
   apply sc
   ·intro a w' vs σ hS hl hs hk
    have f33 : a.tmps[33]?.getD undef = .slice (some ⟨g, 0, none⟩) cs.length cap := svf hk 12
    have f34 : a.tmps[34]?.getD undef = .int .i64 (↑m + 1) := svf hk 13
    exact rp (pt g ((m + 1) * 16)) (by simp [execOp, Act.eval, f33, f34, go_sem, hb2, hb3, ht1]) hl hs hS
   apply sc
   ·intro a w' vs σ hS hl hs hk
    have f35 : a.tmps[35]?.getD undef = .pointer (some ⟨g, (m + 1) * 16, none⟩) := svf hk 14
    exact rp (pt g ((m + 1) * 16 + 5)) (by simp [execOp, Act.eval, f35, go_sem]) hl hs hS
   apply sc
   ·intro a w' vs σ hS hl hs hk
    have f36 : a.tmps[36]?.getD undef = .pointer (some ⟨g, (m + 1) * 16 + 5, none⟩) := svf hk 15
    have hc := cells_facts hS (sg (hs 0 (by decide))) (i := m + 1) (c := cAt cs (m + 1)) hat1
    have hx := hc.2.1
    exact rp (.agg (pv (cAt cs (m + 1)).pen)) (by simp [execOp, Act.eval, f36, go_sem, hx]) hl hs hS
   apply sc
   ·intro a w' vs σ hS hl hs hk
    have e37 : a.tmps.getD 37 undef = .agg (pv (cAt cs (m + 1)).pen) := svv hk 16
    exact ro_call (f := 39) (wanted_none rfl) rfl (by simp only [List.map_toArray, List.map_cons, List.map_nil, Act.eval, e37] <;> rfl) (fun _ _ => by kernel_rfl) ((r14Blank_any _ w').mono fun e w2 ⟨h1, h2⟩ => ⟨_, h1, sp_same (by kernel_rfl) hl hs (hS.bel h2) rfl, trivial⟩)
   apply sc
   ·intro a w' vs σ hS hl hs hk
    have f21 : a.tmps[21]?.getD undef = .slice (some ⟨g, 0, none⟩) cs.length cap := svf hk 0
    have f23 : a.tmps[23]?.getD undef = .int .i64 ↑m := svf hk 2
    exact rp (pt g (m * 16)) (by simp [execOp, Act.eval, f21, f23, go_sem, hb0, hb1]) hl hs hS
   apply sc
   ·intro a w' vs σ hS hl hs hk
    have f39 : a.tmps[39]?.getD undef = .pointer (some ⟨g, m * 16, none⟩) := svf hk 18
    have f32 : a.tmps[32]?.getD undef = .agg (cv (blank (cAt cs m).pen)) := svf hk 11
    obtain ⟨W, hst, ho, hg⟩ := (hS.own (sg (hs 0 (by decide)))).putAt (k := m) (by omega) (blank (cAt cs m).pen)
    exact rstep_store (wanted_none rfl) rfl (by simp [execOp, Act.eval, f39, f32, hst, go_sem]) (sp_set 0 (.cells (.slice (some ⟨g, 0, none⟩) cs.length cap) (cs.set m (blank (cAt cs m).pen))) (by kernel_rfl) (by simp) (by decide) hl hs (by rfl) (hS.cellsUpd (sg (hs 0 (by decide))) ho hg) trivial) trivial
   apply sc
   ·intro a w' vs σ hS hl hs hk
    have f24 : a.tmps[24]?.getD undef = .slice (some ⟨g, 0, none⟩) cs.length cap := svf hk 3
    have f25 : a.tmps[25]?.getD undef = .int .i64 (↑m + 1) := svf hk 4
    exact rp (pt g ((m + 1) * 16)) (by simp [execOp, Act.eval, f24, f25, go_sem, hb2, hb3, ht1]) hl hs hS
   apply sc
   ·intro a w' vs σ hS hl hs hk
    have f40 : a.tmps[40]?.getD undef = .pointer (some ⟨g, (m + 1) * 16, none⟩) := svf hk 20
    have f38 : a.tmps[38]?.getD undef = .agg (cv (blank (cAt cs (m + 1)).pen)) := svf hk 17
    obtain ⟨W, hst, ho, hg⟩ := (hS.own (sg (hs 0 (by decide)))).putAt (k := m + 1) (by simp; omega) (blank (cAt cs (m + 1)).pen)
    exact rstep_store (wanted_none rfl) rfl (by simp [execOp, Act.eval, f40, f38, hst, go_sem]) (sp_set 0 (.cells (.slice (some ⟨g, 0, none⟩) cs.length cap) ((cs.set m (blank (cAt cs m).pen)).set (m + 1) (blank (cAt cs (m + 1)).pen))) (by kernel_rfl) (by simp) (by decide) hl hs (by rfl) (hS.cellsUpd (sg (hs 0 (by decide))) ho hg) trivial) trivial
   exact SSteps.nil
  ·intro vs w' hS hv
   have q0 : vs 0 = _ := hv 0 (by decide)
   have q1 : vs 1 = _ := hv 1 (by decide)
   have q2 : vs 2 = _ := hv 2 (by decide)
   have q3 : vs 3 = _ := hv 3 (by decide)
   have q4 : vs 4 = _ := hv 4 (by decide)
   have q5 : vs 5 = _ := hv 5 (by decide)
   have q6 : vs 6 = _ := hv 6 (by decide)
   have q7 : vs 7 = _ := hv 7 (by decide)
   have q8 : vs 8 = _ := hv 8 (by decide)
   have q9 : vs 9 = _ := hv 9 (by decide)
   have q10 : vs 10 = _ := hv 10 (by decide)
   have q11 : vs 11 = _ := hv 11 (by decide)
   have q12 : vs 12 = _ := hv 12 (by decide)
   have q13 : vs 13 = _ := hv 13 (by decide)
   have q14 : vs 14 = _ := hv 14 (by decide)
   have q15 : vs 15 = _ := hv 15 (by decide)
   have q16 : vs 16 = _ := hv 16 (by decide)
   have q17 : vs 17 = _ := hv 17 (by decide)
   have q18 : vs 18 = _ := hv 18 (by decide)
   have q20 : vs 20 = _ := hv 20 (by decide)
   have S2 := Lib.hid hS
   simp only [putL, Act.put, Nat.zero_add, Nat.reduceAdd, List.setIfInBounds_toArray, List.set_cons_succ, List.set_cons_zero, q0, q1, q2, q3, q4, q5, q6, q7, q8, q9, q10, q11, q12, q13, q14, q15, q16, q17, q18, q20]
   clear hS hv q0 q1 q2 q3 q4 q5 q6 q7 q8 q9 q10 q11 q12 q13 q14 q15 q16 q17 q18 q20
   go_wp2_with fail
   go_end0
   exact ⟨rfl, by rw [HB.out]; exact S2.out⟩
theorem split_at {A : Option Addr} {n0 cap c : Nat} {cs : List Cell} {n : Int} {w0 w : World} {os : List Ob} (hS : Objs w0 w (.cells (.slice A n0 cap) cs :: os)) (hn0 : n0 = cs.length) (hn : n = (c : Int)) (hlen : cs.length ≤ 1000000) (hc : c ≤ 2000000) :
  Calls Tryd.prog 73 #[.slice A n0 cap, .int .i64 n] w fun e w' => e = .returned (.tuple #[]) ∧ Objs w0 w' (.cells (.slice A n0 cap) (brk c cs) :: os) := by
 subst hn0
 exact split_front A cap cs n c hn w0 w os hS hlen hc
theorem break_at {A : Option Addr} {n0 cap c : Nat} {cs : List Cell} {n : Int} {w0 w : World} {os : List Ob} (hS : Objs w0 w (.cells (.slice A n0 cap) cs :: os)) (hn0 : n0 = cs.length) (hn : n = (c : Int)) (hlen : cs.length ≤ 1000000) (hc : c ≤ 2000000) :
  Calls Tryd.prog 75 #[.slice A n0 cap, .int .i64 n] w fun e w' => e = .returned (.tuple #[]) ∧ Objs w0 w' (.cells (.slice A n0 cap) (brk c cs) :: os) := by
 subst hn0
 exact break_front A cap cs n c hn w0 w os hS hlen hc
end Go.Proofs.YtppijfjigcoifaaDoor

namespace Go.Proofs.YtppijfjigcoifaaDoor
open Go.RowKit

theorem line_info : (Tryd.prog.info? 39).map (fun i => (i.zero, i.size, i.bytes)) = some (some (.agg #[.slice none 0 0, .bool false]), 2, 32) := by kernel_rfl
theorem set_self {α : Type} {l : List α} {k : Nat} {x : α} (h : l[k]? = some x) : l.set k x = l := by
 apply List.ext_getElem?
 intro n
 by_cases hn : k = n
 ·subst hn; rw [List.getElem?_set_self (List.getElem?_eq_some_iff.1 h).1, h]
 ·rw [List.getElem?_set_ne hn]
theorem lv_one {v : Value} {cs : List Cell} {w : World} {B : Nat} (h : OwnC w B v cs) : v.oneCell' = true := by
 obtain ⟨A, c, rfl, _⟩ := h.form
 rfl
section
variable {w0 w : World} {os : List Ob} {v b : Value} {cs ds : List Cell} {L : List Ln} {k j : Nat}
theorem run_appO (hS : Objs w0 w os) (hk : os[k]? = some (.cells v cs)) {A : Option Addr} {c : Nat} (hr : RdC w A c ds) (hlen : cs.length + ds.length ≤ 1000000) (ty : TypeId) :
  ∃ v' w', (Builtin.append_ #[37, 37] ty #[v, .slice A ds.length c]).run Tryd.prog w = .ok v' w' ∧ Objs w0 w' (os.set k (.cells v' (cs ++ ds))) ∧ ∃ A' c', v' = .slice A' (cs.length + ds.length) c' := by
 obtain ⟨i, hi, hz0, hz1, hz2⟩ := info_parts cell_info
 obtain ⟨h1, h2, h3⟩ := hr
 have hown := hS.own hk
 cases A with
 | none =>
  obtain rfl := h2 rfl
  obtain rfl : ds = [] := List.eq_nil_of_length_eq_zero (by omega)
  have hrun := run_append_owned_none (P := Tryd.prog) (w := w) 0 37 ty 71 i 16 Tryd.underlying37 hi v cs.length (flat cs) hown
  obtain ⟨A', c', e, _⟩ := hown.form
  refine ⟨v, w, hrun, ?_, A', c', by simpa using e⟩
  rw [List.append_nil, set_self hk]; exact hS
 | some ad =>
  obtain ⟨v', w', hrun, g1, g2, g3, g4⟩ := run_append_own_at (P := Tryd.prog) (w := w) 0 37 ty 71 i _ 16 64 Tryd.underlying37 hi hz0 hz1 hz2 (by simp [Value.cells, cv_size]) (by omega) v cs.length (flat cs) hown ad ds.length c (flat ds) (flat_length ds) (by
   intro j u hu
   have hj : j < ds.length * 16 := by have := (List.getElem?_eq_some_iff.1 hu).1; rwa [flat_length] at this
   obtain ⟨b, off, e, _, hr⟩ := h3 (by omega)
   cases e
   rw [add_at]; exact hr j u hu) (flat_one ds) (by simp only [maxLen]; omega) (by omega) (Nat.zero_le _)
  have ho' : OwnC w' 0 v' (cs ++ ds) := by unfold OwnC; rw [flat_append, List.length_append]; exact g1
  obtain ⟨A', c', e, _⟩ := ho'.form
  refine ⟨v', w', hrun, hS.upd hk (fun F hF => ⟨fun b => v'.ownBlock = some b, Chg.of_grown g2 F (fun b hb => (hF.2 b).2 hb), ⟨ho', fun _ => Iff.rfl⟩, fun b hb => ?_⟩), A', c', by simpa using e⟩
  rcases g4 with g4 | g4
  ·exact .inl ((hF.2 b).2 (by rw [← g4]; exact hb))
  ·rw [g4] at hb; cases hb; exact .inr (Nat.le_refl _)
theorem hdrs_snoc {bs : List Value} (h : bs.length = L.length) (b : Value) (l : Ln) : hdrs (bs ++ [b]) (L ++ [l]) = hdrs bs L ++ [b, .bool l.2] := hdrs_append (L2 := [l]) (b2 := [b]) h
theorem run_appL (hS : Objs w0 w os) (hk : os[k]? = some (.lines v L)) (hj : os[j]? = some (.cells b cs)) (hkj : k ≠ j) {ad : Addr} {c : Nat} {s : Bool} (h0 : w.cell? ad = some b) (h1 : w.cell? (ad.add 1) = some (.bool s)) (hlen : L.length ≤ 1000000) (ty : TypeId) :
  ∃ v' w', (Builtin.append_ #[30, 30] ty #[v, .slice (some ad) 1 c]).run Tryd.prog w = .ok v' w' ∧ Objs w0 w' ((os.set k (.lines v' (L ++ [(cs, s)]))).set j .none) ∧ ∃ A' c', v' = .slice A' (L.length + 1) c' := by
 obtain ⟨i, hi, hz0, hz1, hz2⟩ := info_parts line_info
 obtain ⟨F, bs, hb1, hb2⟩ := hS.get hk
 have hob := hS.own hj
 obtain ⟨v', w', hrun, g1, g2, g3, g4⟩ := run_append_own_at (P := Tryd.prog) (w := w) 0 30 ty 39 i _ 2 32 Tryd.underlying30 hi hz0 hz1 hz2 (by simp [Value.cells]) (by omega) v L.length (hdrs bs L) hb1.own ad 1 c [b, .bool s] rfl (by
  intro j u hu
  match j with
  | 0 => simp at hu; subst hu; rw [Addr.add_zero']; exact h0
  | 1 => simp at hu; subst hu; exact h1
  | j + 2 => simp at hu) (by intro u hu; simp at hu; rcases hu with rfl | rfl; exact lv_one hob; rfl) (by simp only [maxLen]; omega) (by omega) (Nat.zero_le _)
 have hrow : w'.ownsRow 0 39 2 v' (L ++ [(cs, s)]).length (hdrs (bs ++ [b]) (L ++ [(cs, s)])) := by rw [hdrs_snoc hb1.len, List.length_append]; exact g1
 obtain ⟨A', c', e, _⟩ := own_form hrow
 refine ⟨v', w', hrun, hS.join hk hj hkj (fun F G hF hG hd => ?_), A', c', by simpa using e⟩
 obtain ⟨bs2, q1, q2⟩ := hF
 obtain rfl := hb1.same q1
 have hchg : Chg (fun x => v.ownBlock = some x) w w' := Chg.of_grown g2 _ (fun b hb => hb)
 have hnb : ∀ x, b.ownBlock = some x → ¬ (v.ownBlock = some x) := fun x hx hv => own_apart (by decide) q1.own hob hv hx
 refine ⟨LF v' (bs2 ++ [b]) none, fun _ => False, hchg.mono (fun x _ hx => .inl ((q2 x).2 (.inl hx))), ⟨bs2 ++ [b], ⟨by simp [q1.len], hrow, fun n x l _ hx hl => ?_, fun n m x y z hx hy hxz hyz => ?_⟩, fun _ => Iff.rfl⟩, fun _ hf => hf, fun _ _ hf => hf, fun x hx => ?_, fun _ hf => hf.elim⟩
 ·rcases Nat.lt_or_ge n bs2.length with hn | hn
  ·rw [List.getElem?_append_left hn] at hx
   rw [List.getElem?_append_left (by rw [← q1.len]; exact hn)] at hl
   have ho := q1.rows n x l (by simp) hx hl
   exact own_chg ho hchg (fun y hy hv => own_apart (by decide) q1.own ho hv hy)
  ·have hn' : n = bs2.length := by have := (List.getElem?_eq_some_iff.1 hx).1; simp at this; omega
   subst hn'
   rw [List.getElem?_append_right (Nat.le_refl _)] at hx
   rw [q1.len, List.getElem?_append_right (Nat.le_refl _)] at hl
   simp at hx hl
   subst hx hl
   exact own_chg hob hchg hnb
 ·have key : ∀ n x, (bs2 ++ [b])[n]? = some x → x.ownBlock = some z → (n < bs2.length ∧ bs2[n]? = some x) ∨ (n = bs2.length ∧ x = b) := fun n x hx _ => by
   rcases Nat.lt_or_ge n bs2.length with hn | hn
   ·rw [List.getElem?_append_left hn] at hx; exact .inl ⟨hn, hx⟩
   ·have hn' : n = bs2.length := by have := (List.getElem?_eq_some_iff.1 hx).1; simp at this; omega
    subst hn'
    rw [List.getElem?_append_right (Nat.le_refl _)] at hx
    simp at hx
    exact .inr ⟨rfl, hx.symm⟩
  rcases key n x hx hxz with ⟨a1, a2⟩ | ⟨a1, rfl⟩ <;> rcases key m y hy hyz with ⟨b1, b2⟩ | ⟨b1, rfl⟩
  ·exact q1.dist n m x y z a2 b2 hxz hyz
  ·exact (hd z ((q2 z).2 (.inr ⟨n, x, by simp, a2, hxz⟩)) ((hG.2 z).2 hyz)).elim
  ·exact (hd z ((q2 z).2 (.inr ⟨m, y, by simp, b2, hyz⟩)) ((hG.2 z).2 hxz)).elim
  ·omega
 ·rcases hx with hx | ⟨n, y, _, hy, hyx⟩
  ·rcases g4 with g4 | g4
   ·exact .inl ((q2 x).2 (.inl (by rw [← g4]; exact hx)))
   ·rw [g4] at hx; cases hx; exact .inr (.inr (Nat.le_refl _))
  ·rcases Nat.lt_or_ge n bs2.length with hn | hn
   ·rw [List.getElem?_append_left hn] at hy
    exact .inl ((q2 x).2 (.inr ⟨n, y, by simp, hy, hyx⟩))
   ·have hn' : n = bs2.length := by have := (List.getElem?_eq_some_iff.1 hy).1; simp at this; omega
    subst hn'
    rw [List.getElem?_append_right (Nat.le_refl _)] at hy
    simp at hy
    subst hy
    exact .inr (.inl ((hG.2 x).2 hyx))
theorem Objs.nilLines (h : Objs w0 w os) : Objs w0 w (.lines (.slice none 0 0) [] :: os) :=
 h.cons (w' := w) (Below.refl _ _) (G := fun _ => False) ⟨[], ⟨rfl, ⟨by simp [hdrs], .inl ⟨rfl, rfl⟩⟩, fun i b l _ hb => by simp at hb, fun i j b c g hb => by simp at hb⟩, fun b => ⟨fun h => h.elim, fun h => by rcases h with h | ⟨i, x, _, hx, _⟩; cases h; simp at hx⟩⟩ (fun _ hf => hf.elim)
theorem Objs.nilCells (h : Objs w0 w os) : Objs w0 w (.cells (.slice none 0 0) [] :: os) :=
 h.cons (w' := w) (Below.refl _ _) (G := fun _ => False) ⟨OwnC.nil w 0, fun b => ⟨fun h => h.elim, fun h => by cases h⟩⟩ (fun _ hf => hf.elim)
theorem Objs.cellsRd (h : Objs w0 w os) (hk : os[k]? = some (.cells v cs)) : ∃ A c, v = .slice A cs.length c ∧ RdC w A c cs := (h.own hk).form
end

section
variable {ops : Array Oper} {rest : List Oper} {o : Oper} {a : Act} {w : World} {Q : Exit → Act → World → Prop} {Φ : Value → World → Prop}
theorem exec_app {t : TypeId} {s x : Operand} (ho : o.op = .call { callee := .builtin .append, args := #[s, x], argTypes := #[t, t] }) {vs vx v' : Value} {w' : World} (hs : a.eval s = vs) (hx : a.eval x = vx) (hr : (Builtin.append_ #[t, t] o.type #[vs, vx]).run Tryd.prog w = .ok v' w') : (execOp a.eval o).run Tryd.prog w = .ok (.value v') w' := by
 simp [execOp, ho, resolve, invoke, builtin, hs, hx, hr, Result.andThen]
theorem wpList_app {t : TypeId} (s x : Operand) (hw : Region.wanted o (yielded ops a.tmps) = true) (ho : o.op = .call { callee := .builtin .append, args := #[s, x], argTypes := #[t, t] }) {vs vx v' : Value} {w' : World} (hs : a.eval s = vs) (hx : a.eval x = vx) (hr : (Builtin.append_ #[t, t] o.type #[vs, vx]).run Tryd.prog w = .ok v' w')
  (h : wpList Tryd.prog ops Q rest (a.put o.dst v') w') : wpList Tryd.prog ops Q (o :: rest) a w := wpList_run hw (exec_app ho hs hx hr) h
theorem rs_run {v' : Value} {w' : World} (hw : Region.wanted o (yielded ops a.tmps) = true) (hr : (execOp a.eval o).run Tryd.prog w = .ok (.value v') w') (h : Φ v' w') : RStep Tryd.prog ops Q Φ (fun _ _ => True) o a w := rstep_value hw hr h trivial
theorem exec_bsl {t : TypeId} {n : Nat} {parts : Array (Nat × Operand)} {vs : Array (Nat × Value)} {v : Value} {w' : World} (ho : o.op = .buildSlice t n parts) (hv : (parts.map fun (i, x) => (i, a.eval x)) = vs) (hr : (Instr.buildSlice t n vs).run Tryd.prog w = .ok v w') : (execOp a.eval o).run Tryd.prog w = .ok (.value v) w' := by
 subst hv
 unfold execOp
 simp only [ho, Sem.run_bind, hr, Result.andThen_ok, Sem.run_pure]
theorem run_bsl (v : Value) (s : Bool) (w : World) : (Instr.buildSlice 30 1 #[(0, .agg #[v, .bool s])]).run Tryd.prog w = .ok (.slice (some ⟨w.heap.size, 0, none⟩) 1 1) (w.alloc (.cells #[v, .bool s] 39)) := by kernel_rfl
end
end Go.Proofs.YtppijfjigcoifaaDoor

namespace Go.Proofs.YtppijfjigcoifaaDoor
open Go.RowKit

set_option maxRecDepth 100000 in
set_option maxHeartbeats 2000000 in
theorem r14Blanks_any (n : Nat) (hn : n ≤ 100000) (p : Pen) (w0 w : World) (os : List Ob) (hS : Objs w0 w os) :
  Calls Tryd.prog 59 #[.int .i64 n, .agg (pv p)] w fun e w' => ∃ v, e = .returned (.agg #[v, .bool false]) ∧ Objs w0 w' (.cells v (List.replicate n (blank p)) :: os) := by
 have S0 := Lib.hid hS
 clear hS
 go_enter Tryd.func59, Tryd.ntmps59
 go_wp2_with fail
 refine at_objsC S0.out.alloc3 (fun W S1 => ?_)
 generalize w.heap.size + 1 + 1 = b5 at S1 ⊢
 generalize w.heap.size + 1 = b4 at S1 ⊢
 generalize w.heap.size = b3 at S1 ⊢
 have S1 := Lib.hid S1
 go_loopw [6] (fun i wr => ∃ (k : Nat) (v : Value), k ≤ n ∧ i = .int .i64 k ∧ Objs w0 wr (.cells v (List.replicate k (blank p)) :: .box b5 39 #[v, .bool false] :: .box b4 39 #[.slice none 0 0, .bool false] :: .box b3 54 (pv p) :: os)) (fun i _ => n - (intOf i).toNat)
 case atStart => exact ⟨0, _, Nat.zero_le _, rfl, S1.out.nilCells⟩
 case round =>
  obtain ⟨k, v, hk, rfl, hS⟩ := hrel
  have S := Lib.hid hS
  clear hS
  by_cases hlt : k < n
  ·go_upto_region 5 with (fail)
   refine wp_region_stage (w0 := w0) (os := os) (by kernel_rfl) (by kernel_rfl) (by kernel_rfl) [(0, 4, [4], fun vs => .cells (vs 4) [blank p]), (1, 5, [5], fun vs => .cells (vs 5) (List.replicate (k + 1) (blank p))), (2, 7, [5], fun vs => .box b5 39 #[vs 5, .bool false])] [[], [2], [4], [], [0], [0, 1], [], [2]] [.none, .cells v (List.replicate k (blank p)), .box b5 39 #[v, .bool false], .box b4 39 #[.slice none 0 0, .bool false], .box b3 54 (pv p)] (fun i u => match i with | 0 => u = .pointer (some ⟨b5, 0, none⟩) | 1 => u = (v : Value) | 2 => u = .agg (pv p) | 3 => u = .agg (cv (blank p)) | 4 => ∃ g, u = .slice (some ⟨g, 0, none⟩) 1 1 | 5 => ∃ A c, u = .slice A (k + 1) c | 6 => u = .pointer (some ⟨b5, 0, none⟩) | 7 => True | _ => True) (fun vs => [.cells (vs 4) [blank p], .cells (vs 5) (List.replicate (k + 1) (blank p)), .box b5 39 #[vs 5, .bool false], .box b4 39 #[.slice none 0 0, .bool false], .box b3 54 (pv p)]) (by kernel_rfl) (fun vs => by rfl) S.out.pad ?_ ?_
   ·apply sc
    ·intro a w' vs σ hS hl hs hk
     have f5 : a.tmps[5]?.getD undef = .pointer (some ⟨b5, 0, none⟩) := sof hk
     exact rp (pt b5 0) (by simp [execOp, Act.eval, f5, go_sem]) hl hs hS
    apply sc
    ·intro a w' vs σ hS hl hs hk
     have f12 : a.tmps[12]?.getD undef = .pointer (some ⟨b5, 0, none⟩) := svf hk 0
     have hx := (hS.box (sg (hs 2 (by decide)))).cell
     exact rp v (by simp [execOp, Act.eval, f12, go_sem, hx]) hl hs hS
    apply sc
    ·intro a w' vs σ hS hl hs hk
     have f3 : a.tmps[3]?.getD undef = .pointer (some ⟨b3, 0, none⟩) := sof hk
     have hx := (hS.box (sg (hs 4 (by decide)))).penAt
     exact rp (.agg (pv p)) (by simp [execOp, Act.eval, f3, go_sem, hx]) hl hs hS
    apply sc
    ·intro a w' vs σ hS hl hs hk
     have e14 : a.tmps.getD 14 undef = .agg (pv p) := svv hk 2
     exact ro_call (f := 39) (wanted_none rfl) rfl (by simp only [List.map_toArray, List.map_cons, List.map_nil, Act.eval, e14] <;> rfl) (fun _ _ => by kernel_rfl) ((r14Blank_any _ w').mono fun e w2 ⟨h1, h2⟩ => ⟨_, h1, sp_same (by kernel_rfl) hl hs (hS.bel h2) rfl, trivial⟩)
    apply sc
    ·intro a w' vs σ hS hl hs hk
     have f15 : a.tmps[15]?.getD undef = .agg (cv (blank p)) := svf hk 3
     exact rs_run (wanted_none rfl) (exec_bsl rfl (by simp [Act.eval, f15]) (run_bs1 (blank p) w')) (sp_set 0 (.cells (.slice (some ⟨w'.heap.size, 0, none⟩) 1 1) [blank p]) (by kernel_rfl) (by simp) (by decide) hl hs (by rfl) ((hS.newCells (belA _ _) (by simpa [fv, flat] using OwnC.one w' (blank p) (Nat.le_refl _))).place (sg (hs 0 (by decide)))) ⟨_, rfl⟩)
    apply sc
    ·intro a w' vs σ hS hl hs hk
     have f13 : a.tmps[13]?.getD undef = (v : Value) := svf hk 1
     have e16 : a.tmps.getD 16 undef = vs 4 := sk_val hk 4 (by kernel_rfl) rfl rfl
     have p16 : (fun u : Value => ∃ g, u = .slice (some ⟨g, 0, none⟩) 1 1) (vs 4) := (hk.1 4 (by kernel_rfl)).1
     have h1 : σ[1]? = some (.cells v (List.replicate k (blank p))) := hs 1 (by decide)
     have h0 : σ[0]? = some (.cells (vs 4) [blank p]) := hs 0 (by decide)
     obtain ⟨A2, c2, q1, q2⟩ := hS.cellsRd (sg h0)
     obtain ⟨v2, w2, hr, hS2, A3, c3, hv3⟩ := run_appO hS (sg h1) q2 (by simp; omega) 37
     have hrep : (List.replicate k (blank p)) ++ [blank p] = (List.replicate (k + 1) (blank p)) := (List.replicate_succ' ..).symm
     rw [hrep] at hS2
     exact rs_run (wanted_none rfl) (exec_app rfl (by simp [Act.eval, f13]) (by simp only [Act.eval]; exact (e16.trans q1)) hr) (sp_set 1 (.cells v2 (List.replicate (k + 1) (blank p))) (by kernel_rfl) (by simp) (by decide) hl hs (by rfl) hS2 ⟨A3, c3, by rw [hv3]; simp⟩)
    apply sc
    ·intro a w' vs σ hS hl hs hk
     have f5 : a.tmps[5]?.getD undef = .pointer (some ⟨b5, 0, none⟩) := sof hk
     exact rp (pt b5 0) (by simp [execOp, Act.eval, f5, go_sem]) hl hs hS
    apply sc
    ·intro a w' vs σ hS hl hs hk
     have f18 : a.tmps[18]?.getD undef = .pointer (some ⟨b5, 0, none⟩) := svf hk 6
     have e17 : a.tmps.getD 17 undef = vs 5 := sk_val hk 5 (by kernel_rfl) rfl rfl
     have p17 : (fun u : Value => ∃ A c, u = .slice A (k + 1) c) (vs 5) := (hk.1 5 (by kernel_rfl)).1
     have f17 := gd e17
     have h2 : σ[2]? = some (.box b5 39 #[v, .bool false]) := hs 2 (by decide)
     obtain ⟨hx, hf, hz⟩ := (hS.box (sg h2)).facts
     obtain ⟨A3, c3, q3⟩ := p17
     exact rstep_store (w2 := w'.setCell ⟨b5, 0, none⟩ (.slice A3 (k + 1) c3)) (wanted_none rfl) rfl (by simp [execOp, Act.eval, f18, e17, f17, q3, hx, hf, hz, go_sem]) (sp_set 2 (.box b5 39 #[vs 5, .bool false]) (by kernel_rfl) (by simp) (by decide) hl hs (by rfl) (by rw [q3]; exact hS.setBox 2 (sg h2)) trivial) trivial
    exact SSteps.nil
   ·intro vs w' hS hv
    have q0 : vs 0 = _ := hv 0 (by decide)
    have q1 : vs 1 = _ := hv 1 (by decide)
    have q2 : vs 2 = _ := hv 2 (by decide)
    have q3 : vs 3 = _ := hv 3 (by decide)
    have q6 : vs 6 = _ := hv 6 (by decide)
    have q5 := hv 5 (by decide)
    obtain ⟨A5, c5, q5⟩ := (show ∃ A c, vs 5 = .slice A (k + 1) c from q5)
    rw [q5] at hS
    have S2 := Lib.hid hS
    simp only [putL, Act.put, Nat.zero_add, Nat.reduceAdd, List.setIfInBounds_toArray, List.set_cons_succ, List.set_cons_zero, q0, q1, q2, q3, q6]
    clear hS hv q0 q1 q2 q3 q6
    go_wp2_with fail
    go_roundw
    case rel => exact ⟨k + 1, .slice A5 (k + 1) c5, by omega, by go_num, S2.out.tail⟩
    case measure => simp [intOf]; omega
  ·obtain rfl : k = n := by omega
   obtain ⟨hx5, hf5, hz5⟩ := (S.out.box (k := 1) rfl).facts
   obtain ⟨hx4, hf4, hz4⟩ := (S.out.box (k := 2) rfl).facts
   obtain ⟨A, c, hv, -⟩ := S.out.cellsRd (k := 0) rfl
   rw [List.length_replicate] at hv
   subst hv
   go_wp2_with fail
   have S2 := S.out.setLine 2 (.slice A k c) false rfl
   refine bodyPost_ret (results_c1 Tryd.results59 _ _ b4 _ _ rfl (S2.box (k := 2) rfl) Tryd.underlying39 rfl line_size) rfl ?_
   exact ⟨_, rfl, S2.drop2.drop2.drop2⟩

def wipeC (a m : Nat) (p : Pen) (cs : List Cell) : List Cell := cs.take a ++ List.replicate m (blank p) ++ cs.drop (a + m)
theorem wipeC_length {a m : Nat} {p : Pen} {cs : List Cell} (h : a + m ≤ cs.length) : (wipeC a m p cs).length = cs.length := by simp [wipeC]; omega
theorem wipeC_zero (a : Nat) (p : Pen) (cs : List Cell) : wipeC a 0 p cs = cs := by simp [wipeC]
theorem wipeC_succ {a k : Nat} {p : Pen} {cs : List Cell} (h : a + k < cs.length) : (wipeC a k p cs).set (a + k) (blank p) = wipeC a (k + 1) p cs := by
 unfold wipeC
 rw [List.set_append_right _ _ (by simp; omega)]
 rw [show a + k - (cs.take a ++ List.replicate k (blank p)).length = 0 by simp; omega]
 rw [show cs.drop (a + k) = cs[a + k] :: cs.drop (a + k + 1) from List.drop_eq_getElem_cons h]
 rw [List.set_cons_zero, List.replicate_succ']
 simp [Nat.add_assoc]
set_option maxRecDepth 100000 in
set_option maxHeartbeats 2000000 in
theorem wipe_front (g n cap a m c : Nat) (cs : List Cell) (p : Pen) (w0 w : World) (os : List Ob) (hS : Objs w0 w (.cells (.slice (some ⟨g, 0, none⟩) n cap) cs :: os)) (ham : a + m ≤ cs.length) (hmc : m ≤ c) (hlen : cs.length ≤ 1000000) :
  Calls Tryd.prog 89 #[.slice (some ⟨g, a * 16, none⟩) m c, .agg (pv p)] w fun e w' => e = .returned (.tuple #[]) ∧ Objs w0 w' (.cells (.slice (some ⟨g, 0, none⟩) n cap) (wipeC a m p cs) :: os) := by
 have S0 := Lib.hid hS
 have HAM := Lib.hid ham
 have HLEN := Lib.hid hlen
 have hm6 : m ≤ 1000000 := by omega
 clear hS ham hlen
 go_enter Tryd.func89, Tryd.ntmps89
 go_wp2_with fail
 go_loopw [4, 7] (fun _ i wr => ∃ k : Nat, k ≤ m ∧ i = .int .i64 k ∧ Objs w0 wr (.box w.heap.size 54 (pv p) :: .cells (.slice (some ⟨g, 0, none⟩) n cap) (wipeC a k p cs) :: os)) (fun _ i _ => m - (intOf i).toNat)
 case atStart => exact ⟨0, Nat.zero_le _, rfl, by rw [wipeC_zero]; exact S0.out.alloc1⟩
 case round =>
  obtain ⟨k, hk, rfl, hS⟩ := hrel
  have S := Lib.hid hS
  clear hS
  by_cases hlt : k < m
  ·obtain ⟨hx3, hf3, hz3, hp3⟩ := (S.out.box (k := 0) rfl).pbox
   go_wp2_with fail
   refine (pure_call (cellBlank_any _ _) S.out).mono ?_
   rintro e w2 ⟨rfl, hS2⟩
   obtain ⟨W, hst, ho, hg⟩ := (hS2.own (k := 1) rfl).putAt (k := a + k) (by rw [wipeC_length (by have := HAM.out; omega)]; have := HAM.out; omega) (blank p)
   rw [wipeC_succ (by have := HAM.out; omega)] at ho
   have S3 := Lib.hid (hS2.cellsUpd (k := 1) rfl ho hg)
   rw [Nat.add_mul] at hst
   clear hS2 ho hg hx3 hf3 hz3 hp3
   go_wp2_with fail
   go_roundw
   case rel => exact ⟨k + 1, by omega, by go_num, S3.out⟩
   case measure => simp [intOf]; omega
  ·obtain rfl : k = m := by omega
   go_wp2_with fail
   go_end0
   exact ⟨rfl, S.out.tail⟩

set_option maxRecDepth 100000 in
set_option maxHeartbeats 2000000 in
theorem gridblanks_any (n : Nat) (hn : n ≤ 1000) (p : Pen) (w0 w : World) (os : List Ob) (hS : Objs w0 w os) :
  Calls Tryd.prog 54 #[.int .i64 n, .agg (pv p)] w fun e w' => ∃ v, e = .returned (.agg #[v, .bool false]) ∧ Objs w0 w' (.cells v (List.replicate n (blank p)) :: os) := by
 have S0 := Lib.hid hS
 clear hS
 go_enter Tryd.func54, Tryd.ntmps54
 go_wp2_with fail
 refine (pure_call (cellBlank_any _ _) S0.out.alloc2).mono ?_
 rintro e w1 ⟨rfl, hS⟩
 have S1 := Lib.hid hS
 clear hS
 go_wp2_with (refine wpList_bs1 rfl _ rfl (blank p) rfl ?_)
 refine (repeat_any (blank p) n hn _ _ _ (RdC.lit _ _)).mono ?_
 rintro e w2 ⟨v, rfl, ho, hb⟩
 have S2 := Lib.hid (S1.out.newCells (bel1 hb) (own_low ho (by simp)))
 clear ho hb
 obtain ⟨hx, hf, hz⟩ := (S2.out.box (k := 1) rfl).facts
 obtain ⟨A, c, hv, -⟩ := S2.out.cellsRd (k := 0) rfl
 rw [List.length_replicate] at hv
 subst hv
 go_wp2_with fail
 have S3 := S2.out.setLine 1 (.slice A n c) false rfl
 refine bodyPost_ret (results_c1 Tryd.results54 _ _ (w.heap.size + 1) _ _ rfl (S3.box (k := 1) rfl) Tryd.underlying39 rfl line_size) rfl ?_
 exact ⟨_, rfl, S3.drop2.drop2⟩
end Go.Proofs.YtppijfjigcoifaaDoor

namespace Go.Proofs.YtppijfjigcoifaaDoor
open Go.RowKit

def Rect (n : Nat) (L : List Ln) : Prop := ∀ l ∈ L, l.1.length = n
theorem Rect.at_ {n : Nat} {L : List Ln} (h : Rect n L) {i : Nat} {l : Ln} (hl : L[i]? = some l) : l.1.length = n := h l (List.mem_of_getElem? hl)
def thereE (row : Int) (L : List Ln) : Int := if 0 ≤ row ∧ row < L.length then 0 else 3
def atE (row col : Int) (cols : Nat) (L : List Ln) : Int := if (0 ≤ row ∧ row < L.length) ∧ (0 ≤ col ∧ col < cols) then 0 else 3
theorem there_cases (row : Int) (L : List Ln) : (row < 0 ∧ Hid (thereE row L = 3)) ∨ ((0 ≤ row ∧ row < L.length) ∧ Hid (thereE row L = 0)) ∨ ((0 ≤ row ∧ (L.length : Int) ≤ row) ∧ Hid (thereE row L = 3)) := by
 by_cases h : row < 0
 ·exact .inl ⟨h, Lib.hid (if_neg (by omega))⟩
 ·by_cases h2 : row < L.length
  ·exact .inr (.inl ⟨⟨by omega, h2⟩, Lib.hid (if_pos ⟨by omega, h2⟩)⟩)
  ·exact .inr (.inr ⟨⟨by omega, by omega⟩, Lib.hid (if_neg (by omega))⟩)
theorem at_cases {row : Int} {L : List Ln} (hr : 0 ≤ row ∧ row < L.length) (col : Int) (cols : Nat) : (col < 0 ∧ Hid (atE row col cols L = 3)) ∨ ((0 ≤ col ∧ col < cols) ∧ Hid (atE row col cols L = 0)) ∨ ((0 ≤ col ∧ (cols : Int) ≤ col) ∧ Hid (atE row col cols L = 3)) := by
 by_cases h : col < 0
 ·exact .inl ⟨h, Lib.hid (if_neg (by omega))⟩
 ·by_cases h2 : col < cols
  ·exact .inr (.inl ⟨⟨by omega, h2⟩, Lib.hid (if_pos ⟨hr, by omega, h2⟩)⟩)
  ·exact .inr (.inr ⟨⟨by omega, by omega⟩, Lib.hid (if_neg (by omega))⟩)
section
variable {w0 w : World} {os : List Ob} {k p : Nat} {cols : Nat} {L : List Ln}
theorem none_no (hS : Objs w0 w os) (hk : os[k]? = some (.grid p 58 cols L)) (hc : 0 < cols) : Calls Tryd.prog 57 #[.pointer (some ⟨p, 0, none⟩)] w fun e w' => e = .returned (.bool false) ∧ Objs w0 w' os := by
 obtain ⟨A, c, hB, -, -⟩ := hS.gridRd hk
 obtain ⟨hx, hf, hz⟩ := hB.facts
 have h0 : ((cols : Int) == 0) = false := by simp; omega
 have S := Lib.hid hS
 clear hS
 go_enter Tryd.func57, Tryd.ntmps57
 go_wp2_with fail
 go_ret
 exact ⟨rfl, S.out⟩
theorem Rows_any {cols : Int} {t : TypeId} (hS : Objs w0 w os) (hk : os[k]? = some (.grid p t cols L)) : Calls Tryd.prog 17 #[.pointer (some ⟨p, 0, none⟩)] w fun e w' => e = .returned (.int .i64 L.length) ∧ Objs w0 w' os := by
 obtain ⟨A, c, hB, hm, hr⟩ := hS.gridRd hk
 have hlen : L.length ≤ 9223372036854775807 := by have := hr.1; unfold maxLen at hm; omega
 obtain ⟨hx, hf, hz⟩ := hB.facts
 have S := Lib.hid hS
 clear hS hr hm
 go_enter Tryd.func17, Tryd.ntmps17
 go_wp2_with fail
 go_ret
 exact ⟨rfl, S.out⟩
theorem Cols_any {cols : Int} {t : TypeId} (hS : Objs w0 w os) (hk : os[k]? = some (.grid p t cols L)) : Calls Tryd.prog 18 #[.pointer (some ⟨p, 0, none⟩)] w fun e w' => e = .returned (.int .i64 cols) ∧ Objs w0 w' os := by
 obtain ⟨A, c, hB, hm, hr⟩ := hS.gridRd hk
 obtain ⟨hx, hf, hz⟩ := hB.facts
 have S := Lib.hid hS
 clear hS hr hm
 go_enter Tryd.func18, Tryd.ntmps18
 go_wp2_with fail
 go_ret
 exact ⟨rfl, S.out⟩
set_option maxHeartbeats 400000 in
theorem there_any (row : Int) (hS : Objs w0 w os) (hk : os[k]? = some (.grid p 58 cols L)) (hc : 0 < cols) : Calls Tryd.prog 84 #[.pointer (some ⟨p, 0, none⟩), .int .i64 row] w fun e w' => e = .returned (.int .i64 (thereE row L)) ∧ Objs w0 w' os := by
 have S := Lib.hid hS
 obtain ⟨A0, c0, hB0, hm, hr⟩ := hS.gridRd hk
 have hlen : L.length ≤ 9223372036854775807 := by have := hr.1; unfold maxLen at hm; omega
 clear hS hB0 hr hm
 have HK := Lib.hid hk
 clear hk
 rcases there_cases row L with ⟨h, HT⟩ | ⟨⟨h, h2⟩, HT⟩ | ⟨⟨h, h2⟩, HT⟩
 all_goals
  go_enter Tryd.func84, Tryd.ntmps84
  go_wp2_with fail
  refine (none_no S.out HK.out hc).mono ?_
  rintro e w1 ⟨rfl, hS⟩
  obtain ⟨A, c, hB, -, -⟩ := hS.gridRd HK.out
  obtain ⟨hx, hf, hz⟩ := hB.facts
  have S1 := Lib.hid hS
  clear hS hB
  go_wp2_with fail
  go_ret
  exact ⟨by rw [HT.out]; rfl, S1.out⟩
set_option maxHeartbeats 400000 in
theorem at_any (row col : Int) (hS : Objs w0 w os) (hk : os[k]? = some (.grid p 58 cols L)) (hc : 0 < cols) : Calls Tryd.prog 71 #[.pointer (some ⟨p, 0, none⟩), .int .i64 row, .int .i64 col] w fun e w' => e = .returned (.int .i64 (atE row col cols L)) ∧ Objs w0 w' os := by
 have S := Lib.hid hS
 have HK := Lib.hid hk
 clear hS hk
 by_cases hr : 0 ≤ row ∧ row < L.length
 case neg =>
  have HT := Lib.hid (show atE row col cols L = 3 by unfold atE; rw [if_neg (by omega)])
  have HE := Lib.hid (show thereE row L = 3 by unfold thereE; rw [if_neg hr])
  clear hr
  go_enter Tryd.func71, Tryd.ntmps71
  go_wp2_with fail
  refine (there_any row S.out HK.out hc).mono ?_
  rw [HE.out]
  rintro e w1 ⟨rfl, hS⟩
  have S1 := Lib.hid hS
  clear hS
  go_wp2_with fail
  go_ret
  exact ⟨by rw [HT.out]; rfl, S1.out⟩
 have HE := Lib.hid (show thereE row L = 0 by unfold thereE; rw [if_pos hr])
 rcases at_cases hr col cols with ⟨h, HT⟩ | ⟨⟨h, h2⟩, HT⟩ | ⟨⟨h, h2⟩, HT⟩
 all_goals
  clear hr
  go_enter Tryd.func71, Tryd.ntmps71
  go_wp2_with fail
  refine (there_any row S.out HK.out hc).mono ?_
  rw [HE.out]
  rintro e w1 ⟨rfl, hS⟩
  obtain ⟨A, c, hB, -, -⟩ := hS.gridRd HK.out
  obtain ⟨hx, hf, hz⟩ := hB.facts
  have S1 := Lib.hid hS
  clear hS hB
  go_wp2_with fail
  go_ret
  exact ⟨by rw [HT.out]; rfl, S1.out⟩
end
theorem inked_any (q : Pen) {w0 w : World} {os : List Ob} (hT : Tabs w0) (hS : Objs w0 w os) : Calls Tryd.prog 87 #[.agg (pv q)] w fun e w' => e = .returned (.bool q.ok) ∧ Objs w0 w' os := by
 have S := Lib.hid hS
 have HT := Lib.hid hT
 clear hS hT
 go_enter Tryd.func87, Tryd.ntmps87
 go_wp2_with fail
 refine (pure_call (cellBlank_any _ _) S.out.alloc1).mono ?_
 rintro e w1 ⟨rfl, hS⟩
 have S1 := Lib.hid hS
 clear hS
 go_wp2_with fail
 refine (pure_call (cellValid_any _ _ (S1.out.tabs HT.out)) S1.out).mono ?_
 rw [ok_blank]
 rintro e w2 ⟨rfl, hS⟩
 have S2 := Lib.hid hS
 clear hS
 go_wp2_with fail
 go_ret
 exact ⟨rfl, S2.out.tail⟩
section
variable {w0 w : World} {os : List Ob} {k p : Nat} {cols : Nat} {L : List Ln}
set_option maxHeartbeats 400000 in
theorem Cell_yes {i j : Nat} {l : Ln} {x : Cell} (hS : Objs w0 w os) (hk : os[k]? = some (.grid p 58 cols L)) (hc : 0 < cols) (hj : j < cols) (hl : L[i]? = some l) (hx : l.1[j]? = some x) :
  Calls Tryd.prog 48 #[.pointer (some ⟨p, 0, none⟩), .int .i64 i, .int .i64 j] w fun e w' => e = .returned (.tuple #[.agg (cv x), .int .i64 0]) ∧ Objs w0 w' os := by
 have S := Lib.hid hS
 have HK := Lib.hid hk
 have HL := Lib.hid hl
 have HX := Lib.hid hx
 have hi : i < L.length := (List.getElem?_eq_some_iff.1 hl).1
 have hj2 : j < l.1.length := (List.getElem?_eq_some_iff.1 hx).1
 have HE := Lib.hid (show atE i j cols L = 0 by unfold atE; rw [if_pos ⟨⟨by omega, by omega⟩, by omega, by omega⟩])
 clear hS hk hl hx
 go_enter Tryd.func48, Tryd.ntmps48
 go_wp2_with fail
 refine (at_any i j S.out.alloc1 (k := k + 1) HK.out hc).mono ?_
 rw [HE.out]
 rintro e w1 ⟨rfl, hS⟩
 have S1 := Lib.hid hS
 obtain ⟨A, c, hB, hm, hr⟩ := hS.gridRd (k := k + 1) HK.out
 have hlen : L.length ≤ 9223372036854775807 := by have := hr.1; unfold maxLen at hm; omega
 obtain ⟨hx0, hf0, hz0⟩ := hB.facts
 obtain ⟨b, off, A', c', rfl, hz1, hc1, hc2, hrd⟩ := hr.at_ HL.out
 obtain ⟨b2, off2, rfl, hz2, hrg⟩ := hrd.at_ hj2
 have hce := elem_cell hrg hj2
 have hcx : l.1[j] = x := by have := HX.out; simpa [hj2] using this
 rw [hcx] at hce
 obtain ⟨hx6, hf6, hz6⟩ := (hS.box (k := 0) rfl).facts
 have hst := store_cv_row w1 w.heap.size (cv cell0) x (hS.box (k := 0) rfl) (cv_size _)
 clear hS hB hm hr hrd hrg hcx
 go_wp2_with fail
 have S2 := S1.out.rowBox 0 (ds := cv x) rfl
 refine bodyPost_ret (results_ct Tryd.results48 _ _ w.heap.size _ _ rfl (S2.box (k := 0) rfl) Tryd.underlying71 rfl cell_size) rfl ?_
 exact ⟨rfl, S2.tail⟩
set_option maxHeartbeats 400000 in
theorem Line_yes {i : Nat} {l : Ln} (hS : Objs w0 w os) (hk : os[k]? = some (.grid p 58 cols L)) (hc : 0 < cols) (hl : L[i]? = some l) (hn : l.1.length ≤ 1000000) :
  Calls Tryd.prog 49 #[.pointer (some ⟨p, 0, none⟩), .int .i64 i] w fun e w' => ∃ v, e = .returned (.tuple #[.agg #[v, .bool l.2], .int .i64 0]) ∧ Objs w0 w' (.cells v l.1 :: os) := by
 have S := Lib.hid hS
 have HK := Lib.hid hk
 have HL := Lib.hid hl
 have hi : i < L.length := (List.getElem?_eq_some_iff.1 hl).1
 have HE := Lib.hid (show thereE i L = 0 by unfold thereE; rw [if_pos ⟨by omega, by omega⟩])
 clear hS hk hl
 go_enter Tryd.func49, Tryd.ntmps49
 go_wp2_with fail
 refine (there_any i S.out.alloc1 (k := k + 1) HK.out hc).mono ?_
 rw [HE.out]
 rintro e w1 ⟨rfl, hS⟩
 have S1 := Lib.hid hS
 obtain ⟨A, c, hB, hm, hr⟩ := hS.gridRd (k := k + 1) HK.out
 have hlen : L.length ≤ 9223372036854775807 := by have := hr.1; unfold maxLen at hm; omega
 obtain ⟨hx0, hf0, hz0⟩ := hB.facts
 obtain ⟨b, off, A', c', rfl, hz1, hc1, hc2, hrd⟩ := hr.at_ HL.out
 have HRD := Lib.hid hrd
 clear hS hB hm hr hrd
 go_wp2_with fail
 refine (lineCopy_any A' c' l.1 l.2 _ HRD.out hn).mono ?_
 rintro e w2 ⟨v, rfl, ho, hb⟩
 have S2 := Lib.hid (S1.out.newCells hb ho)
 obtain ⟨A2, c2, rfl, -⟩ := ho.form
 clear ho hb hx0 hf0 hz0 hz1 hc1 hc2
 obtain ⟨hx4, hf4, hz4⟩ := (S2.out.box (k := 1) rfl).facts
 go_wp2_with fail
 have S3 := S2.out.setLine 1 (.slice A2 l.1.length c2) l.2 rfl
 refine bodyPost_ret (results_ct Tryd.results49 _ _ w.heap.size _ _ rfl (S3.box (k := 1) rfl) Tryd.underlying39 rfl line_size) rfl ?_
 exact ⟨_, rfl, S3.drop2⟩
end
end Go.Proofs.YtppijfjigcoifaaDoor

namespace Go.Proofs.YtppijfjigcoifaaDoor
open Go.RowKit

open Classical in
noncomputable def recAt (w : World) (b o n : Nat) : Option (Array Value) := if h : ∃ cs : Array Value, cs.size = n ∧ w.rangeAt b o cs.toList then some h.choose else none
theorem recAt_of {w : World} {b o n : Nat} {cs : Array Value} (hn : cs.size = n) (h : w.rangeAt b o cs.toList) : recAt w b o n = some cs := by
 have hx : ∃ cs : Array Value, cs.size = n ∧ w.rangeAt b o cs.toList := ⟨cs, hn, h⟩
 unfold recAt
 rw [dif_pos hx]
 exact congrArg some (rangeAt_det (by rw [hx.choose_spec.1, hn]) hx.choose_spec.2 h)
theorem range_of_recAt {w : World} {b o n : Nat} {cs : Array Value} (h : recAt w b o n = some cs) : cs.size = n ∧ w.rangeAt b o cs.toList := by
 unfold recAt at h
 split at h
 ·rename_i hx; have := hx.choose_spec; rw [Option.some.inj h] at this; exact this
 ·cases h
theorem recAt_same {w w' : World} {b : Nat} (h : ∀ i, w'.cell? ⟨b, i, none⟩ = w.cell? ⟨b, i, none⟩) (o n : Nat) : recAt w' b o n = recAt w b o n := by
 cases h1 : recAt w b o n with
 | some c => exact recAt_of (range_of_recAt h1).1 ((rangeAt_same h).2 (range_of_recAt h1).2)
 | none =>
  cases h2 : recAt w' b o n with
  | none => rfl
  | some c => rw [recAt_of (range_of_recAt h2).1 ((rangeAt_same h).1 (range_of_recAt h2).2)] at h1; cases h1
@[go_sem] theorem recAt_alloc (w : World) (ob : Obj) (b o n : Nat) (h : b < w.heap.size) : recAt (w.alloc ob) b o n = recAt w b o n := recAt_same (fun i => World.cell?_alloc_lt w ob ⟨b, i, none⟩ h) o n
theorem recAt_below {w w' : World} {B b : Nat} (hb : Below B w w') (h : b < B) (o n : Nat) : recAt w' b o n = recAt w b o n := recAt_same (fun i => hb.cell (p := ⟨b, i, none⟩) h) o n
@[go_sem] theorem recAt_plus (w x : World) (b o n : Nat) (h : b < w.heap.size) : recAt (plus w x) b o n = recAt w b o n := recAt_same (fun i => cell_plus w x b i h) o n
@[go_sem] theorem recAt_drew (w : World) (b o n : Nat) : recAt w.drew b o n = recAt w b o n := rfl
theorem Blk.recAt {w : World} {g : Nat} {t : TypeId} {cs : Array Value} (h : Blk w g t cs) (n : Nat) (hn : cs.size = n) : Proofs.YtppijfjigcoifaaDoor.recAt w g 0 n = some cs := recAt_of hn h.range
def ldR (a : Addr) (n : Nat) : Sem (Array Value) := loadCells a n
theorem ldR_of {w : World} {b o n : Nat} {cs : Array Value} (h : recAt w b o n = some cs) : (ldR ⟨b, o, none⟩ n).run Tryd.prog w = .ok cs w := by
 obtain ⟨hn, hr⟩ := range_of_recAt h
 have := run_loadCells_list (P := Tryd.prog) w ⟨b, o, none⟩ cs.toList (fun j v hv => by rw [add_at]; exact hr j v hv)
 subst hn
 simpa [ldR] using this
@[go_sem] theorem run_ldC_row (w : World) (b o : Nat) (h : (recAt w b o 16).isSome = true) : (ldC ⟨b, o, none⟩).run Tryd.prog w = .ok ((recAt w b o 16).getD #[]) w := by
 obtain ⟨c, hc⟩ := Option.isSome_iff_exists.1 h
 rw [hc]; exact ldR_of hc
@[go_sem] theorem run_ldR (w : World) (b o n : Nat) (h : (recAt w b o n).isSome = true) : (ldR ⟨b, o, none⟩ n).run Tryd.prog w = .ok ((recAt w b o n).getD #[]) w := by
 obtain ⟨c, hc⟩ := Option.isSome_iff_exists.1 h
 rw [hc]; exact ldR_of hc
def RdRec (w : World) (A : Option Addr) (c k : Nat) (rs : List (Array Value)) : Prop := rs.length ≤ c ∧ (A = none → c = 0) ∧ (0 < rs.length → ∃ b off, A = some ⟨b, off, none⟩ ∧ b < w.heap.size ∧ ∀ (i : Nat) (r : Array Value), rs[i]? = some r → recAt w b (off + i * k) k = some r)
theorem RdRec.bel {w w' : World} {A : Option Addr} {c k : Nat} {rs : List (Array Value)} (h : RdRec w A c k rs) (hb : Below w.heap.size w w') : RdRec w' A c k rs := ⟨h.1, h.2.1, fun hn => by
 obtain ⟨b, off, rfl, hz, hr⟩ := h.2.2 hn
 exact ⟨b, off, rfl, by have := hb.size; omega, fun i r hi => (recAt_below hb hz _ _).trans (hr i r hi)⟩⟩
theorem RdRec.at_ {w : World} {A : Option Addr} {c k : Nat} {rs : List (Array Value)} (h : RdRec w A c k rs) {i : Nat} {r : Array Value} (hi : rs[i]? = some r) : ∃ b off, A = some ⟨b, off, none⟩ ∧ b < w.heap.size ∧ recAt w b (off + i * k) k = some r := by
 have hl := (List.getElem?_eq_some_iff.1 hi).1
 obtain ⟨b, off, rfl, hz, hr⟩ := h.2.2 (by omega)
 exact ⟨b, off, rfl, hz, hr i r hi⟩
end Go.Proofs.YtppijfjigcoifaaDoor

namespace Go.Proofs.YtppijfjigcoifaaDoor
open Go.RowKit

def tailA (A : Option Addr) (c k : Nat) : Option Addr := if c = k then A else A.map (·.add (k * 16))
theorem tailA_at {g c k : Nat} (h : k < c) : tailA (some ⟨g, 0, none⟩) c k = some ⟨g, k * 16, none⟩ := by unfold tailA; rw [if_neg (by omega)]; simp [add_at]
theorem run_from (w : World) (A : Option Addr) (n c k : Nat) (hk : k ≤ n) (hc : n ≤ c) (hA : A = none → c = 0) (h63 : n ≤ 9223372036854775807) : (Instr.slice 37 (.slice A n c) (some (.int .i64 k)) none none).run Tryd.prog w = .ok (.slice (tailA A c k) (n - k) (c - k)) w := by
 cases A with
 | none =>
  obtain rfl := hA rfl
  obtain rfl : n = 0 := by omega
  obtain rfl : k = 0 := by omega
  simp [go_sem, tailA]
 | some ad => simp [go_sem, hk, tailA]
theorem run_mid (w : World) (g n c lo hi : Nat) (h1 : lo ≤ hi) (h2 : hi ≤ n) (h3 : n ≤ c) (h4 : lo < c) (h63 : n ≤ 9223372036854775807) : (Instr.slice 37 (.slice (some ⟨g, 0, none⟩) n c) (some (.int .i64 lo)) (some (.int .i64 hi)) none).run Tryd.prog w = .ok (.slice (some ⟨g, lo * 16, none⟩) (hi - lo) (c - lo)) w := by
 have h5 : hi ≤ c := by omega
 have h6 : ¬ c = lo := by omega
 simp [go_sem, h1, h5, h6, add_at]
theorem RdC.from {w : World} {A : Option Addr} {c : Nat} {cs : List Cell} (h : RdC w A c cs) (k : Nat) (hk : k ≤ cs.length) : RdC w (tailA A c k) (c - k) (cs.drop k) := by
 refine ⟨by have := h.1; simp; omega, fun e => ?_, fun hn => ?_⟩
 ·unfold tailA at e
  split at e
  ·omega
  ·have : A = none := by cases A with
    | none => rfl
    | some ad => cases e
   have := h.2.1 this
   omega
 ·simp at hn
  obtain ⟨b, off, e, hlt, hr⟩ := h.2.2 (by omega)
  subst e
  unfold tailA
  rw [if_neg (by have := h.1; omega)]
  exact ⟨b, off + k * 16, by simp [add_at], hlt, RdC.drop hr k⟩
section
variable {w0 w : World} {os : List Ob}
theorem run_copyO {k g n cap : Nat} {cs : List Cell} (hS : Objs w0 w os) (hk : os[k]? = some (.cells (.slice (some ⟨g, 0, none⟩) n cap) cs)) (i a m : Nat) (dp sp : Option Addr) (dLen dCap sLen sCap : Nat) (hm : Nat.min sLen dLen = m) (hi : i + m ≤ cs.length) (ha : a + m ≤ cs.length)
  (hpos : 0 < m → dp = some ⟨g, i * 16, none⟩ ∧ sp = some ⟨g, a * 16, none⟩) (ty : TypeId) :
  ∃ W, (Builtin.copy_ #[37, 37] ty #[.slice dp dLen dCap, .slice sp sLen sCap]).run Tryd.prog w = .ok (goInt m) W ∧ Objs w0 W (os.set k (.cells (.slice (some ⟨g, 0, none⟩) n cap) (cs.take i ++ ((cs.drop a).take m ++ cs.drop (i + m))))) := by
 have ho := hS.own hk
 have hlen : ((cs.drop a).take m).length = m := by simp; omega
 obtain ⟨hn, -⟩ : n = cs.length ∧ True := by
  obtain ⟨A', c', e, -⟩ := ho.form
  simp only [Value.slice.injEq] at e
  exact ⟨e.2.1, trivial⟩
 subst hn
 obtain ⟨W, h1, h2, h3⟩ := own_copy (P := Tryd.prog) ho 37 37 ty Tryd.underlying37 cell_size dp sp dLen dCap sLen sCap (i * 16) (flat ((cs.drop a).take m)) (by rw [flat_length, hlen, hm]) (by rw [flat_length, flat_length, hlen, ← Nat.add_mul]; exact Nat.mul_le_mul_right 16 hi) (fun hp => by
  rw [hm] at hp
  obtain ⟨e1, e2⟩ := hpos hp
  refine ⟨e1, _, e2, fun j v hv => ?_⟩
  obtain ⟨g', e', -, -, hz, hr⟩ := ho.head (by omega)
  cases e'
  have hd := RdC.take (RdC.drop hr a) m
  rw [add_at]
  have := hd j v hv
  rwa [Nat.zero_add] at this) (flat_one _)
 rw [hm] at h1
 refine ⟨W, h1, hS.cellsUpd hk ?_ h3⟩
 have e : flat (cs.take i ++ ((cs.drop a).take m ++ cs.drop (i + m))) = over (flat cs) (i * 16) (flat ((cs.drop a).take m)) := by
  unfold over
  rw [flat_append, flat_append, ← flat_take, ← flat_drop cs (i + m), flat_length, hlen, Nat.add_mul]
 unfold OwnC
 rw [e]
 have hl2 : (cs.take i ++ ((cs.drop a).take m ++ cs.drop (i + m))).length = cs.length := by simp; omega
 rw [hl2]
 exact h2
end
theorem exec_copy {o : Oper} {a : Act} {w w' : World} {dT sT : TypeId} {d s : Operand} (ho : o.op = .call { callee := .builtin .copy, args := #[d, s], argTypes := #[dT, sT] }) {vd vs u : Value} (hd : a.eval d = vd) (hs : a.eval s = vs) (hr : (Builtin.copy_ #[dT, sT] o.type #[vd, vs]).run Tryd.prog w = .ok u w') : (execOp a.eval o).run Tryd.prog w = .ok (.value u) w' := by
 simp [execOp, ho, resolve, invoke, builtin, hd, hs, hr, Result.andThen]
theorem exec_slice {o : Oper} {a : Act} {w : World} {x : Operand} {lo hi : Option Operand} {vx u : Value} {vl vh : Option Value} (ho : o.op = .slice 37 x lo hi none) (hx : a.eval x = vx) (hl : lo.map a.eval = vl) (hh : hi.map a.eval = vh) (hr : (Instr.slice 37 vx vl vh none).run Tryd.prog w = .ok u w) : (execOp a.eval o).run Tryd.prog w = .ok (.value u) w := by
 subst hx hl hh
 unfold execOp
 have h : (Instr.sliceAt 37 (a.eval x) (lo.map a.eval) (hi.map a.eval) none).run Tryd.prog w = .ok u w := by
  unfold Instr.sliceAt
  simp only [Sem.run_bind, run_underlying Tryd.underlying37, Result.andThen_ok]
  exact hr
 simp only [ho, Option.map_none, Sem.run_bind, h, Result.andThen_ok, Sem.run_pure]
theorem inked_is {q : Pen} {b : Bool} (h : q.ok = b) {w0 w : World} {os : List Ob} (hT : Tabs w0) (hS : Objs w0 w os) : Calls Tryd.prog 87 #[.agg (pv q)] w fun e w' => e = .returned (.bool b) ∧ Objs w0 w' os := h ▸ inked_any q hT hS
end Go.Proofs.YtppijfjigcoifaaDoor

namespace Go.Proofs.YtppijfjigcoifaaDoor
open Go.RowKit

def putC (j : Nat) (x : Cell) (cs : List Cell) : List Cell :=
 let l := (brk (j + x.width.toNat) (brk j cs)).set j x
 if x.width = 2 then l.set (j + 1) (spacer x.pen) else l
theorem putC_length (j : Nat) (x : Cell) (cs : List Cell) : (putC j x cs).length = cs.length := by
 unfold putC
 simp only
 split <;> simp [brk_length]
theorem ok_w12 {x : Cell} (h : x.ok = true) (h0 : ¬ x.width = 0) : x.width = 1 ∨ x.width = 2 := by
 rcases ok_width h with h1 | h1 | h1
 ·exact absurd h1 h0
 ·exact .inl h1
 ·exact .inr h1
section
variable {w0 w : World} {os : List Ob} {p cols : Nat} {L : List Ln}
theorem Objs.openAt {t : TypeId} {cols : Int} {i : Nat} {l : Ln} (h : Objs w0 w (.grid p t cols L :: os)) (hl : L[i]? = some l) : ∃ v b, Objs w0 w (.cells b l.1 :: .linesx v L i b :: .box p t #[.int .i64 cols, v] :: os) := by
 obtain ⟨v, h1⟩ := h.openGrid (k := 0) rfl
 obtain ⟨b, h2⟩ := h1.openRow (k := 0) rfl hl
 exact ⟨v, b, h2⟩
theorem Objs.closeAt {t : TypeId} {cols : Int} {v b : Value} {i : Nat} {l : Ln} {cs : List Cell} (h : Objs w0 w (.cells b cs :: .linesx v L i b :: .box p t #[.int .i64 cols, v] :: os)) (hl : L[i]? = some l) : Objs w0 w (.grid p t cols (L.set i (cs, l.2)) :: os) := by
 have h1 := h.closeRow (k := 0) (s := l.2) rfl (by rw [hl]; rfl)
 exact (h1 : Objs w0 w (.lines v _ :: .box p t _ :: os)).closeGrid (k := 0) rfl
theorem Objs.swap {a b : Ob} (h : Objs w0 w (a :: b :: os)) : Objs w0 w (b :: a :: os) := by
 have h1 := h.lift (k := 1) (o := b) rfl
 exact h1.del 2
set_option maxRecDepth 100000 in
set_option maxHeartbeats 4000000 in
theorem Put_yes {i j : Nat} {l : Ln} (x : Cell) (hT : Tabs w0) (hS : Objs w0 w (.grid p 58 cols L :: os)) (hc : 0 < cols) (hcm : cols ≤ 1000) (hl : L[i]? = some l) (hrow : l.1.length = cols) (hv : x.ok = true) (hw : ¬ x.width = 0) (hfit : (j : Int) + x.width ≤ cols) :
  Calls Tryd.prog 33 #[.pointer (some ⟨p, 0, none⟩), .int .i64 i, .int .i64 j, .agg (cv x)] w fun e w' => e = .returned (.int .i64 0) ∧ Objs w0 w' (.grid p 58 cols (L.set i (putC j x l.1, l.2)) :: os) := by
 have S := Lib.hid hS
 have hi : i < L.length := (List.getElem?_eq_some_iff.1 hl).1
 have hxw : 1 ≤ x.width ∧ x.width ≤ 2 := by rcases ok_w12 hv hw with h | h <;> omega
 have hj : j < cols := by omega
 have HL := Lib.hid hl
 have HT := Lib.hid hT
 have HE := Lib.hid (show atE i j cols L = 0 by unfold atE; rw [if_pos ⟨⟨by omega, by omega⟩, by omega, by omega⟩])
 have HV := Lib.hid hv
 have hw0 := beq_no hw
 have hsum : IntKind.i64.wrap ((j : Int) + x.width) = j + x.width := IntWalk.i64_in _ (by omega)
 have hov : ¬ ((cols : Int) < j + x.width) := by omega
 have HROW := Lib.hid hrow
 have hlr : l.1.length ≤ 1000 := by omega
 have hjr : j < l.1.length := by omega
 clear hS hT hl hv hw hrow
 go_enter Tryd.func33, Tryd.ntmps33
 go_wp2_with fail
 refine (at_any _ _ S.out.alloc1 (k := 1) rfl hc).mono ?_
 rw [HE.out]
 rintro e w1 ⟨rfl, hS⟩
 have S1 := Lib.hid hS
 clear hS S
 generalize w.heap.size = b7 at S1 ⊢
 go_upto_region 4 with (fail)
 refine wp_region_stage (w0 := w0) (os := os) (by kernel_rfl) (by kernel_rfl) (by kernel_rfl) [] [[0], [], [], [], [], [0], [], [], [], [], [], [0], [], [], [], [], [1], [], []] [.box b7 71 (cv x), .grid p 58 cols L] (fun i u => match i with | 0 => u = .agg (cv x) | 1 => u = .bool true | 2 => u = .bool false | 3 => u = .bool false | 4 => u = .pointer (some ⟨b7, 4, none⟩) | 5 => u = .int .i64 x.width | 6 => u = .bool false | 7 => u = .bool false | 8 => u = .bool false | 9 => u = .int .i64 ↑j | 10 => u = .pointer (some ⟨b7, 4, none⟩) | 11 => u = .int .i64 x.width | 12 => u = .int .i64 (↑j + x.width) | 13 => u = .pointer (some ⟨p, 0, none⟩) | 14 => u = .pointer (some ⟨p, 0, none⟩) | 15 => u = .pointer (some ⟨p, 0, none⟩) | 16 => u = .int .i64 ↑cols | 17 => u = .bool false | 18 => u = .bool false | _ => True) (fun vs => [.box b7 71 (cv x), .grid p 58 cols L]) (by kernel_rfl) (fun vs => by rfl) S1.out ?_ ?_
 ·apply sc
  ·intro a w' vs σ hS hl hs hk
   have f7 : a.tmps[7]?.getD undef = .pointer (some ⟨b7, 0, none⟩) := sof hk
   have hx := (hS.box (sg (hs 0 (by decide)))).box.2.2.2.1
   exact rp (.agg (cv x)) (by simp [execOp, Act.eval, f7, go_sem, hx]) hl hs hS
  apply sc
  ·intro a w' vs σ hS hl hs hk
   have e18 : a.tmps.getD 18 undef = .agg (cv x) := svv hk 0
   exact ro_call (f := 72) (wanted_none rfl) rfl (by simp only [List.map_toArray, List.map_cons, List.map_nil, Act.eval, e18] <;> rfl) (fun _ _ => by kernel_rfl) ((valid_yes HV.out w' (hS.tabs HT.out)).mono fun e w2 ⟨h1, h2⟩ => ⟨_, h1, sp_same (by kernel_rfl) hl hs (hS.bel h2) rfl, trivial⟩)
  apply sc
  ·intro a w' vs σ hS hl hs hk
   have f19 : a.tmps[19]?.getD undef = .bool true := svf hk 1
   exact rp (.bool false) (by simp [execOp, Act.eval, f19, go_sem]) hl hs hS
  apply sc
  ·intro a w' vs σ hS hl hs hk
   have f20 : a.tmps[20]?.getD undef = .bool false := svf hk 2
   exact rp (.bool false) (by simp [execOp, Act.eval, f20, go_sem]) hl hs hS
  apply sc
  ·intro a w' vs σ hS hl hs hk
   have f7 : a.tmps[7]?.getD undef = .pointer (some ⟨b7, 0, none⟩) := sof hk
   exact rq (pt b7 4) (wanted_yes rfl rfl rfl (svv hk 3)) (by simp [execOp, Act.eval, f7, go_sem]) hl hs hS
  apply sc
  ·intro a w' vs σ hS hl hs hk
   have f22 : a.tmps[22]?.getD undef = .pointer (some ⟨b7, 4, none⟩) := svf hk 4
   have hx := (hS.box (sg (hs 0 (by decide)))).box.1
   exact rq (.int .i64 x.width) (wanted_yes rfl rfl rfl (svv hk 3)) (by simp [execOp, Act.eval, f22, go_sem, hx]) hl hs hS
  apply sc
  ·intro a w' vs σ hS hl hs hk
   have f23 : a.tmps[23]?.getD undef = .int .i64 x.width := svf hk 5
   exact rq (.bool false) (wanted_yes rfl rfl rfl (svv hk 3)) (by simp [execOp, Act.eval, f23, go_sem, hw0]) hl hs hS
  apply sc
  ·intro a w' vs σ hS hl hs hk
   have f21 : a.tmps[21]?.getD undef = .bool false := svf hk 3
   have f24 : a.tmps[24]?.getD undef = .bool false := svf hk 6
   exact rp (.bool false) (by simp [execOp, Act.eval, f21, f24, go_sem]) hl hs hS
  apply sc
  ·intro a w' vs σ hS hl hs hk
   have f25 : a.tmps[25]?.getD undef = .bool false := svf hk 7
   exact rp (.bool false) (by simp [execOp, Act.eval, f25, go_sem]) hl hs hS
  apply sc
  ·intro a w' vs σ hS hl hs hk
   have f2 : a.tmps[2]?.getD undef = .int .i64 ↑j := sof hk
   exact rq (.int .i64 ↑j) (wanted_yes rfl rfl rfl (svv hk 8)) (by simp [execOp, Act.eval, f2, go_sem]) hl hs hS
  apply sc
  ·intro a w' vs σ hS hl hs hk
   have f7 : a.tmps[7]?.getD undef = .pointer (some ⟨b7, 0, none⟩) := sof hk
   exact rq (pt b7 4) (wanted_yes rfl rfl rfl (svv hk 8)) (by simp [execOp, Act.eval, f7, go_sem]) hl hs hS
  apply sc
  ·intro a w' vs σ hS hl hs hk
   have f28 : a.tmps[28]?.getD undef = .pointer (some ⟨b7, 4, none⟩) := svf hk 10
   have hx := (hS.box (sg (hs 0 (by decide)))).box.1
   exact rq (.int .i64 x.width) (wanted_yes rfl rfl rfl (svv hk 8)) (by simp [execOp, Act.eval, f28, go_sem, hx]) hl hs hS
  apply sc
  ·intro a w' vs σ hS hl hs hk
   have f27 : a.tmps[27]?.getD undef = .int .i64 ↑j := svf hk 9
   have f29 : a.tmps[29]?.getD undef = .int .i64 x.width := svf hk 11
   exact rq (.int .i64 (↑j + x.width)) (wanted_yes rfl rfl rfl (svv hk 8)) (by simp [execOp, Act.eval, f27, f29, go_sem, hsum]) hl hs hS
  apply sc
  ·intro a w' vs σ hS hl hs hk
   have f0 : a.tmps[0]?.getD undef = .pointer (some ⟨p, 0, none⟩) := sof hk
   exact rq (pt p 0) (wanted_yes rfl rfl rfl (svv hk 8)) (by simp [execOp, Act.eval, f0, go_sem]) hl hs hS
  apply sc
  ·intro a w' vs σ hS hl hs hk
   have f31 : a.tmps[31]?.getD undef = .pointer (some ⟨p, 0, none⟩) := svf hk 13
   exact rq (pt p 0) (wanted_yes rfl rfl rfl (svv hk 8)) (by simp [execOp, Act.eval, f31, go_sem]) hl hs hS
  apply sc
  ·intro a w' vs σ hS hl hs hk
   have f32 : a.tmps[32]?.getD undef = .pointer (some ⟨p, 0, none⟩) := svf hk 14
   exact rq (pt p 0) (wanted_yes rfl rfl rfl (svv hk 8)) (by simp [execOp, Act.eval, f32, go_sem]) hl hs hS
  apply sc
  ·intro a w' vs σ hS hl hs hk
   have f33 : a.tmps[33]?.getD undef = .pointer (some ⟨p, 0, none⟩) := svf hk 15
   obtain ⟨A1, c1, hB1, -, -⟩ := hS.gridRd (sg (hs 1 (by decide)))
   have hx := hB1.cell
   exact rq (.int .i64 ↑cols) (wanted_yes rfl rfl rfl (svv hk 8)) (by simp [execOp, Act.eval, f33, go_sem, hx]) hl hs hS
  apply sc
  ·intro a w' vs σ hS hl hs hk
   have f30 : a.tmps[30]?.getD undef = .int .i64 (↑j + x.width) := svf hk 12
   have f34 : a.tmps[34]?.getD undef = .int .i64 ↑cols := svf hk 16
   exact rq (.bool false) (wanted_yes rfl rfl rfl (svv hk 8)) (by simp [execOp, Act.eval, f30, f34, go_sem, hov]) hl hs hS
  apply sc
  ·intro a w' vs σ hS hl hs hk
   have f26 : a.tmps[26]?.getD undef = .bool false := svf hk 8
   have f35 : a.tmps[35]?.getD undef = .bool false := svf hk 17
   exact rp (.bool false) (by simp [execOp, Act.eval, f26, f35, go_sem]) hl hs hS
  exact SSteps.nil
 ·intro vs w' hS hv
  have q0 : vs 0 = _ := hv 0 (by decide)
  have q1 : vs 1 = _ := hv 1 (by decide)
  have q2 : vs 2 = _ := hv 2 (by decide)
  have q3 : vs 3 = _ := hv 3 (by decide)
  have q4 : vs 4 = _ := hv 4 (by decide)
  have q5 : vs 5 = _ := hv 5 (by decide)
  have q6 : vs 6 = _ := hv 6 (by decide)
  have q7 : vs 7 = _ := hv 7 (by decide)
  have q8 : vs 8 = _ := hv 8 (by decide)
  have q9 : vs 9 = _ := hv 9 (by decide)
  have q10 : vs 10 = _ := hv 10 (by decide)
  have q11 : vs 11 = _ := hv 11 (by decide)
  have q12 : vs 12 = _ := hv 12 (by decide)
  have q13 : vs 13 = _ := hv 13 (by decide)
  have q14 : vs 14 = _ := hv 14 (by decide)
  have q15 : vs 15 = _ := hv 15 (by decide)
  have q16 : vs 16 = _ := hv 16 (by decide)
  have q17 : vs 17 = _ := hv 17 (by decide)
  have q18 : vs 18 = _ := hv 18 (by decide)
  have S2 := Lib.hid hS
  simp only [putL, Act.put, Nat.zero_add, Nat.reduceAdd, List.setIfInBounds_toArray, List.set_cons_succ, List.set_cons_zero, q0, q1, q2, q3, q4, q5, q6, q7, q8, q9, q10, q11, q12, q13, q14, q15, q16, q17, q18]
  clear hS hv q0 q1 q2 q3 q4 q5 q6 q7 q8 q9 q10 q11 q12 q13 q14 q15 q16 q17 q18
  clear hsum hw0 hov
  obtain ⟨v, b, hS3⟩ := S2.out.swap.openAt HL.out
  obtain ⟨A, c, rfl, -⟩ := hS3.cellsRd (k := 0) rfl
  obtain ⟨g, rfl, -, -, -, -⟩ := (hS3.own (k := 0) rfl).head (by omega)
  obtain ⟨gr, cr, rfl, h1, h2, h3, h4, h5, h6, h7⟩ := hS3.linesxRd (k := 1) rfl
  obtain ⟨hx2, hf2, hz2⟩ := (hS3.box (k := 2) rfl).facts
  have hlen2 : L.length ≤ 9223372036854775807 := by unfold maxLen at h2; omega
  have S3 := Lib.hid hS3
  clear hS3 h1 h2 h6
  go_wp2_with fail
  refine (split_at S3.out rfl rfl (by omega) (by omega)).mono ?_
  rintro e w4 ⟨rfl, hS4⟩
  have S4 := Lib.hid hS4
  obtain ⟨hx7, hf7, hz7, hc7, hp7⟩ := (hS4.box (k := 3) rfl).box
  clear hS4 hx2 hf2 hz2 h4 h5 h7
  go_wp2_with fail
  refine (split_at (c := j + x.width.toNat) S4.out (by rw [brk_length]) (by omega) (by rw [brk_length]; omega) (by omega)).mono ?_
  rintro e w5 ⟨rfl, hS5⟩
  obtain ⟨W, hst, ho, hg⟩ := (hS5.own (k := 0) rfl).putAt (k := j) (by rw [brk_length, brk_length]; omega) x
  have hS6 := hS5.cellsUpd (k := 0) rfl ho hg
  clear hx7 hf7 hz7 hc7 hp7
  obtain ⟨hx5, hf5, hz5, hc5, hp5⟩ := (hS5.box (k := 3) rfl).box
  obtain ⟨hx7, hf7, hz7, hc7, hp7⟩ := (hS6.box (k := 3) rfl).box
  have S6 := Lib.hid hS6
  clear hS5 hS6 ho hg
  by_cases hw2 : x.width = 2
  ·have hw2' := beq_yes hw2
   have HP := Lib.hid (show putC j x l.1 = (((brk (j + x.width.toNat) (brk j l.1)).set j x).set (j + 1) (spacer x.pen)) from if_pos hw2)
   have HW2 := Lib.hid hw2
   clear hw2
   have hj2 : j + 1 < l.1.length := by have := HW2.out; have := HROW.out; omega
   go_wp2_with fail
   refine (pure_call (cellSpacer_any _ _) S6.out).mono ?_
   rintro e w7 ⟨rfl, hS7⟩
   obtain ⟨W2, hst2, ho2, hg2⟩ := (hS7.own (k := 0) rfl).putAt (k := j + 1) (by rw [List.length_set, brk_length, brk_length]; have := HW2.out; have := HROW.out; omega) (spacer x.pen)
   have S8 := Lib.hid (hS7.cellsUpd (k := 0) rfl ho2 hg2)
   clear ho2 hg2
   clear hS7
   have HF := S8.out.closeAt HL.out
   rw [← HP.out] at HF
   go_wp2_with fail
   go_ret
   exact ⟨rfl, HF.drop2⟩
  ·have hw2' := beq_no hw2
   have HP := Lib.hid (show putC j x l.1 = ((brk (j + x.width.toNat) (brk j l.1)).set j x) by unfold putC; rw [if_neg hw2])
   clear hw2
   have HF := S6.out.closeAt HL.out
   rw [← HP.out] at HF
   go_wp2_with fail
   go_ret
   exact ⟨rfl, HF.drop2⟩
set_option maxRecDepth 100000 in
set_option maxHeartbeats 4000000 in
theorem r14Put_any {i j : Nat} {l : Ln} (x : Cell) (hS : Objs w0 w (.grid p 33 cols L :: os)) (hc : 0 < cols) (hcm : cols ≤ 1000) (hl : L[i]? = some l) (hrow : l.1.length = cols) (hv : x.ok = true) (hw : ¬ x.width = 0) (hfit : (j : Int) + x.width ≤ cols) :
  Calls Tryd.prog 34 #[.pointer (some ⟨p, 0, none⟩), .int .i64 i, .int .i64 j, .agg (cv x)] w fun e w' => e = .returned (.tuple #[]) ∧ Objs w0 w' (.grid p 33 cols (L.set i (putC j x l.1, l.2)) :: os) := by
 have S := Lib.hid hS
 have hi : i < L.length := (List.getElem?_eq_some_iff.1 hl).1
 have hxw : 1 ≤ x.width ∧ x.width ≤ 2 := by rcases ok_w12 hv hw with h | h <;> omega
 have hj : j < cols := by omega
 have HL := Lib.hid hl
 have HROW := Lib.hid hrow
 have hlr : l.1.length ≤ 1000 := by omega
 have hjr : j < l.1.length := by omega
 clear hS hl hv hw hrow
 go_enter Tryd.func34, Tryd.ntmps34
 have S2 := Lib.hid (S.out.alloc1 (c1 := cv x) (t1 := 71))
 obtain ⟨v, b, hS3⟩ := S2.out.swap.openAt HL.out
 obtain ⟨A, c, rfl, -⟩ := hS3.cellsRd (k := 0) rfl
 obtain ⟨g, rfl, -, -, -, -⟩ := (hS3.own (k := 0) rfl).head (by omega)
 obtain ⟨gr, cr, rfl, h1, h2, h3, h4, h5, h6, h7⟩ := hS3.linesxRd (k := 1) rfl
 obtain ⟨hx2, hf2, hz2⟩ := (hS3.box (k := 2) rfl).facts
 have hlen2 : L.length ≤ 9223372036854775807 := by unfold maxLen at h2; omega
 have S3 := Lib.hid hS3
 clear hS3 h1 h2 h6
 go_wp2_with fail
 refine (break_at S3.out rfl rfl (by omega) (by omega)).mono ?_
 rintro e w4 ⟨rfl, hS4⟩
 have S4 := Lib.hid hS4
 obtain ⟨hx7, hf7, hz7, hc7, hp7⟩ := (hS4.box (k := 3) rfl).box
 clear hS4 hx2 hf2 hz2 h4 h5 h7
 go_wp2_with fail
 refine (break_at (c := j + x.width.toNat) S4.out (by rw [brk_length]) (by omega) (by rw [brk_length]; omega) (by omega)).mono ?_
 rintro e w5 ⟨rfl, hS5⟩
 obtain ⟨W, hst, ho, hg⟩ := (hS5.own (k := 0) rfl).putAt (k := j) (by rw [brk_length, brk_length]; omega) x
 have hS6 := hS5.cellsUpd (k := 0) rfl ho hg
 clear hx7 hf7 hz7 hc7 hp7
 obtain ⟨hx5, hf5, hz5, hc5, hp5⟩ := (hS5.box (k := 3) rfl).box
 obtain ⟨hx7, hf7, hz7, hc7, hp7⟩ := (hS6.box (k := 3) rfl).box
 have S6 := Lib.hid hS6
 clear hS5 hS6 ho hg
 by_cases hw2 : x.width = 2
 ·have hw2' := beq_yes hw2
  have HP := Lib.hid (show putC j x l.1 = (((brk (j + x.width.toNat) (brk j l.1)).set j x).set (j + 1) (⟨0, 0, 0, 0, 0, x.pen⟩ : Cell)) from if_pos hw2)
  have HW2 := Lib.hid hw2
  clear hw2
  have hj2 : j + 1 < l.1.length := by have := HW2.out; have := HROW.out; omega
  obtain ⟨W2, hst2, ho2, hg2⟩ := (S6.out.own (k := 0) rfl).putAt (k := j + 1) (by rw [List.length_set, brk_length, brk_length]; have := HW2.out; have := HROW.out; omega) (⟨0, 0, 0, 0, 0, x.pen⟩ : Cell)
  have S8 := Lib.hid (S6.out.cellsUpd (k := 0) rfl ho2 hg2)
  clear ho2 hg2
  have HF := S8.out.closeAt HL.out
  rw [← HP.out] at HF
  go_wp2_with fail
  go_end0
  exact ⟨rfl, HF.drop2⟩
 ·have hw2' := beq_no hw2
  have HP := Lib.hid (show putC j x l.1 = ((brk (j + x.width.toNat) (brk j l.1)).set j x) by unfold putC; rw [if_neg hw2])
  clear hw2
  have HF := S6.out.closeAt HL.out
  rw [← HP.out] at HF
  go_wp2_with fail
  go_end0
  exact ⟨rfl, HF.drop2⟩
end
end Go.Proofs.YtppijfjigcoifaaDoor

namespace Go.Proofs.YtppijfjigcoifaaDoor
open Go.RowKit

def clearC (f t : Nat) (q : Pen) (cs : List Cell) : List Cell := if f < t then wipeC f (t - f) q (brk t (brk f cs)) else cs
theorem clearC_length {f t : Nat} {q : Pen} {cs : List Cell} (h : t ≤ cs.length) : (clearC f t q cs).length = cs.length := by
 unfold clearC
 split
 ·rw [wipeC_length (by rw [brk_length, brk_length]; omega), brk_length, brk_length]
 ·rfl
def shiftR (j k : Nat) (q : Pen) (cs : List Cell) : List Cell := let l := brk (cs.length - k) (brk j cs); l.take j ++ (List.replicate k (blank q) ++ (l.drop j).take (cs.length - k - j))
def shiftL (j k : Nat) (q : Pen) (cs : List Cell) : List Cell := let l := brk (j + k) (brk j cs); l.take j ++ (l.drop (j + k) ++ List.replicate k (blank q))
theorem shiftR_length {j k : Nat} {q : Pen} {cs : List Cell} (h : j + k ≤ cs.length) : (shiftR j k q cs).length = cs.length := by
 simp only [shiftR, List.length_append, List.length_take, List.length_drop, List.length_replicate, brk_length]; omega
theorem shiftL_length {j k : Nat} {q : Pen} {cs : List Cell} (h : j + k ≤ cs.length) : (shiftL j k q cs).length = cs.length := by
 simp only [shiftL, List.length_append, List.length_take, List.length_drop, List.length_replicate, brk_length]; omega
theorem shiftR_is {j k : Nat} {q : Pen} {l : List Cell} (h : j + k ≤ l.length) :
  wipeC j k q (l.take (j + k) ++ ((l.drop j).take (l.length - k - j) ++ l.drop (j + k + (l.length - k - j)))) = l.take j ++ (List.replicate k (blank q) ++ (l.drop j).take (l.length - k - j)) := by
 unfold wipeC
 have e1 : l.drop (j + k + (l.length - k - j)) = [] := List.drop_eq_nil_of_le (by omega)
 rw [e1, List.append_nil]
 have hlen : (l.take (j + k)).length = j + k := by simp; omega
 rw [List.take_append_of_le_length (by omega), List.take_take, Nat.min_eq_left (by omega), List.drop_left' hlen]
 simp
theorem shiftL_is {j k : Nat} {q : Pen} {l : List Cell} (h : j + k ≤ l.length) :
  wipeC (l.length - k) k q (l.take j ++ ((l.drop (j + k)).take (l.length - (j + k)) ++ l.drop (j + (l.length - (j + k))))) = l.take j ++ (l.drop (j + k) ++ List.replicate k (blank q)) := by
 unfold wipeC
 have e1 : (l.drop (j + k)).take (l.length - (j + k)) = l.drop (j + k) := List.take_of_length_le (by simp)
 rw [e1]
 have hlen : (l.take j ++ l.drop (j + k)).length = l.length - k := by simp; omega
 rw [List.drop_eq_nil_of_le (i := l.length - k + k) (by simp only [List.length_append, List.length_take, List.length_drop]; omega), ← List.append_assoc, List.take_left' hlen, List.append_nil, List.append_assoc]
section
variable {w0 w : World} {os : List Ob} {p cols : Nat} {L : List Ln}
set_option maxRecDepth 100000 in
set_option maxHeartbeats 4000000 in
theorem Shift_right {i j k : Nat} {l : Ln} (q : Pen) (hT : Tabs w0) (hS : Objs w0 w (.grid p 58 cols L :: os)) (hc : 0 < cols) (hcm : cols ≤ 1000) (hl : L[i]? = some l) (hrow : l.1.length = cols) (hq : q.ok = true) (n : Int) (hj : j < cols) (hn : 0 < n) (hn2 : n ≤ 9223372036854775807) (hk : (k : Int) = min n ((cols - j : Nat) : Int)) :
  Calls Tryd.prog 52 #[.pointer (some ⟨p, 0, none⟩), .int .i64 i, .int .i64 j, .int .i64 n, .agg (pv q)] w fun e w' => e = .returned (.int .i64 0) ∧ Objs w0 w' (.grid p 58 cols (L.set i (shiftR j k q l.1, l.2)) :: os) := by
 have S := Lib.hid hS
 have hi : i < L.length := (List.getElem?_eq_some_iff.1 hl).1
 have HL := Lib.hid hl
 have HT := Lib.hid hT
 have HQ := Lib.hid hq
 have HROW := Lib.hid hrow
 have hlr : l.1.length ≤ 1000 := by omega
 have hlr2 : cols ≤ l.1.length := by omega
 have hlr3 : l.1.length ≤ cols := by omega
 have HE := Lib.hid (show atE i j cols L = 0 by unfold atE; rw [if_pos ⟨⟨by omega, by omega⟩, by omega, by omega⟩])
 have hkj : j + k ≤ cols := by omega
 have hk1 : 1 ≤ k := by omega
 have hn0 : (n == 0) = false := by simp; omega
 have HP := Lib.hid (show wipeC j (j + k - j) q ((brk (cols - k) (brk j l.1)).take (j + k) ++ (((brk (cols - k) (brk j l.1)).drop j).take (cols - k - j) ++ (brk (cols - k) (brk j l.1)).drop (j + k + (cols - k - j)))) = shiftR j k q l.1 by
  have hb : (brk (cols - k) (brk j l.1)).length = cols := by rw [brk_length, brk_length, hrow]
  have h := shiftR_is (j := j) (k := k) (q := q) (l := brk (cols - k) (brk j l.1)) (by omega)
  rw [hb] at h
  rw [show j + k - j = k by omega, h]
  unfold shiftR
  rw [hrow])
 have hmin : min n ((cols : Int) - j) = (k : Int) := by omega
 clear hS hT hl hrow hq hk
 go_enter Tryd.func52, Tryd.ntmps52
 go_wp2_with fail
 refine (at_any i j S.out.alloc1 (k := 1) rfl hc).mono ?_
 rw [HE.out]
 rintro e w1 ⟨rfl, hS⟩
 have S1 := Lib.hid hS
 obtain ⟨A0, c0, hB0, -, -⟩ := hS.gridRd (k := 1) rfl
 obtain ⟨hx0, hf0, hz0⟩ := hB0.facts
 obtain ⟨hx9, hf9, hz9, hp9⟩ := (hS.box (k := 0) rfl).pbox
 clear hS S hB0
 generalize w.heap.size = b9 at S1 hx9 hf9 hz9 hp9 ⊢
 go_wp2_with fail
 refine (inked_is HQ.out HT.out S1.out).mono ?_
 rintro e w2 ⟨rfl, hS⟩
 have S2 := Lib.hid hS
 clear hS hx0 hf0 hz0 hx9 hf9 hz9 hp9
 obtain ⟨v, b, hS3⟩ := S2.out.swap.openAt HL.out
 obtain ⟨A, c, rfl, hrd⟩ := hS3.cellsRd (k := 0) rfl
 have hnc : l.1.length ≤ c := hrd.1
 obtain ⟨g, rfl, -, -, -, -⟩ := (hS3.own (k := 0) rfl).head (by omega)
 obtain ⟨gr, cr, rfl, h1, h2, h3, h4, h5, h6, h7⟩ := hS3.linesxRd (k := 1) rfl
 obtain ⟨hx2, hf2, hz2⟩ := (hS3.box (k := 2) rfl).facts
 have hlen2 : L.length ≤ 9223372036854775807 := by unfold maxLen at h2; omega
 have S3 := Lib.hid hS3
 clear hS3 h1 h2 h6 hrd
 go_wp2_with fail
 refine (split_at (c := j) S3.out rfl rfl (by omega) (by omega)).mono ?_
 rintro e w4 ⟨rfl, hS4⟩
 have S4 := Lib.hid hS4
 obtain ⟨hx2, hf2, hz2⟩ := (hS4.box (k := 2) rfl).facts
 clear hS4 h4 h5 h7
 go_wp2_with fail
 refine (split_at (n := (cols : Int) - k) (c := cols - k) S4.out (by rw [brk_length]) (by omega) (by rw [brk_length]; omega) (by omega)).mono ?_
 rintro e w5 ⟨rfl, hS5⟩
 have S5 := Lib.hid hS5
 have HW1 := Lib.hid (show IntKind.i64.wrap ((j : Int) + k) = ((j + k : Nat) : Int) by rw [IntWalk.i64_in _ (by omega)]; omega)
 have HW2 := Lib.hid (show IntKind.i64.wrap ((cols : Int) - k) = ((cols - k : Nat) : Int) by rw [IntWalk.i64_in _ (by omega)]; omega)
 clear hmin hn0
 clear hS5 hx2 hf2 hz2
 go_upto_region 14 with (fail)
 refine wp_region_stage (w0 := w0) (os := os) (by kernel_rfl) (by kernel_rfl) (by kernel_rfl) [(0, 14, [], fun vs => .cells (.slice (some ⟨g, 0, none⟩) l.1.length c) ((brk (cols - k) (brk j l.1)).take (j + k) ++ (((brk (cols - k) (brk j l.1)).drop j).take (cols - k - j) ++ (brk (cols - k) (brk j l.1)).drop (j + k + (cols - k - j)))))] [[], [], [], [], [], [], [], [], [], [], [2], [], [], [], [0]] [.cells (.slice (some ⟨g, 0, none⟩) l.1.length c) (brk (cols - k) (brk j l.1)), .linesx (.slice (some ⟨gr, 0, none⟩) L.length cr) L i (.slice (some ⟨g, 0, none⟩) l.1.length c), .box p 58 #[.int .i64 ↑cols, .slice (some ⟨gr, 0, none⟩) L.length cr], .box b9 54 (pv q)] (fun i u => match i with | 0 => u = .slice (some ⟨g, 0, none⟩) l.1.length c | 1 => u = .int .i64 ↑j | 2 => u = .int .i64 ↑k | 3 => u = .int .i64 ↑(j + k) | 4 => u = .slice (tailA (some ⟨g, 0, none⟩) c (j + k)) (l.1.length - (j + k)) (c - (j + k)) | 5 => u = .slice (some ⟨g, 0, none⟩) l.1.length c | 6 => u = .int .i64 ↑j | 7 => u = .pointer (some ⟨p, 0, none⟩) | 8 => u = .pointer (some ⟨p, 0, none⟩) | 9 => u = .pointer (some ⟨p, 0, none⟩) | 10 => u = .int .i64 ↑cols | 11 => u = .int .i64 ↑k | 12 => u = .int .i64 ↑(cols - k) | 13 => u = .slice (some ⟨g, j * 16, none⟩) (cols - k - j) (c - j) | 14 => True | _ => True) (fun vs => [.cells (.slice (some ⟨g, 0, none⟩) l.1.length c) ((brk (cols - k) (brk j l.1)).take (j + k) ++ (((brk (cols - k) (brk j l.1)).drop j).take (cols - k - j) ++ (brk (cols - k) (brk j l.1)).drop (j + k + (cols - k - j)))), .linesx (.slice (some ⟨gr, 0, none⟩) L.length cr) L i (.slice (some ⟨g, 0, none⟩) l.1.length c), .box p 58 #[.int .i64 ↑cols, .slice (some ⟨gr, 0, none⟩) L.length cr], .box b9 54 (pv q)]) (by kernel_rfl) (fun vs => by rfl) S5.out ?_ ?_
 ·apply sc
  ·intro a w' vs σ hS hl hs hk
   have f12 : a.tmps[12]?.getD undef = .slice (some ⟨g, 0, none⟩) l.1.length c := sof hk
   exact rp (.slice (some ⟨g, 0, none⟩) l.1.length c) (by simp [execOp, Act.eval, f12, go_sem]) hl hs hS
  apply sc
  ·intro a w' vs σ hS hl hs hk
   have f2 : a.tmps[2]?.getD undef = .int .i64 ↑j := sof hk
   exact rp (.int .i64 ↑j) (by simp [execOp, Act.eval, f2, go_sem]) hl hs hS
  apply sc
  ·intro a w' vs σ hS hl hs hk
   have f14 : a.tmps[14]?.getD undef = .int .i64 ↑k := sof hk
   exact rp (.int .i64 ↑k) (by simp [execOp, Act.eval, f14, go_sem]) hl hs hS
  apply sc
  ·intro a w' vs σ hS hl hs hk
   have f62 : a.tmps[62]?.getD undef = .int .i64 ↑j := svf hk 1
   have f63 : a.tmps[63]?.getD undef = .int .i64 ↑k := svf hk 2
   exact rp (.int .i64 ↑(j + k)) (by simp [execOp, Act.eval, f62, f63, go_sem, HW1.out]) hl hs hS
  apply sc
  ·intro a w' vs σ hS hl hs hk
   have f61 : a.tmps[61]?.getD undef = .slice (some ⟨g, 0, none⟩) l.1.length c := svf hk 0
   have f64 : a.tmps[64]?.getD undef = .int .i64 ↑(j + k) := svf hk 3
   exact rs_run (wanted_none rfl) (exec_slice rfl (by simp [Act.eval, f61, f64]) (by simp [Act.eval, f61, f64]; try rfl) (by simp [Act.eval, f61, f64]; try rfl) (run_from w' (some ⟨g, 0, none⟩) l.1.length c (j + k) (by omega) (by omega) (fun h => by cases h) (by omega))) (sp_same (by kernel_rfl) hl hs hS (show (.slice (tailA (some ⟨g, 0, none⟩) c (j + k)) (l.1.length - (j + k)) (c - (j + k)) : Value) = _ from rfl))
  apply sc
  ·intro a w' vs σ hS hl hs hk
   have f12 : a.tmps[12]?.getD undef = .slice (some ⟨g, 0, none⟩) l.1.length c := sof hk
   exact rp (.slice (some ⟨g, 0, none⟩) l.1.length c) (by simp [execOp, Act.eval, f12, go_sem]) hl hs hS
  apply sc
  ·intro a w' vs σ hS hl hs hk
   have f2 : a.tmps[2]?.getD undef = .int .i64 ↑j := sof hk
   exact rp (.int .i64 ↑j) (by simp [execOp, Act.eval, f2, go_sem]) hl hs hS
  apply sc
  ·intro a w' vs σ hS hl hs hk
   have f0 : a.tmps[0]?.getD undef = .pointer (some ⟨p, 0, none⟩) := sof hk
   exact rp (pt p 0) (by simp [execOp, Act.eval, f0, go_sem]) hl hs hS
  apply sc
  ·intro a w' vs σ hS hl hs hk
   have f68 : a.tmps[68]?.getD undef = .pointer (some ⟨p, 0, none⟩) := svf hk 7
   exact rp (pt p 0) (by simp [execOp, Act.eval, f68, go_sem]) hl hs hS
  apply sc
  ·intro a w' vs σ hS hl hs hk
   have f69 : a.tmps[69]?.getD undef = .pointer (some ⟨p, 0, none⟩) := svf hk 8
   exact rp (pt p 0) (by simp [execOp, Act.eval, f69, go_sem]) hl hs hS
  apply sc
  ·intro a w' vs σ hS hl hs hk
   have f70 : a.tmps[70]?.getD undef = .pointer (some ⟨p, 0, none⟩) := svf hk 9
   have hx := (hS.box (sg (hs 2 (by decide)))).cell
   exact rp (.int .i64 ↑cols) (by simp [execOp, Act.eval, f70, go_sem, hx]) hl hs hS
  apply sc
  ·intro a w' vs σ hS hl hs hk
   have f14 : a.tmps[14]?.getD undef = .int .i64 ↑k := sof hk
   exact rp (.int .i64 ↑k) (by simp [execOp, Act.eval, f14, go_sem]) hl hs hS
  apply sc
  ·intro a w' vs σ hS hl hs hk
   have f71 : a.tmps[71]?.getD undef = .int .i64 ↑cols := svf hk 10
   have f72 : a.tmps[72]?.getD undef = .int .i64 ↑k := svf hk 11
   exact rp (.int .i64 ↑(cols - k)) (by simp [execOp, Act.eval, f71, f72, go_sem, HW2.out]) hl hs hS
  apply sc
  ·intro a w' vs σ hS hl hs hk
   have f66 : a.tmps[66]?.getD undef = .slice (some ⟨g, 0, none⟩) l.1.length c := svf hk 5
   have f67 : a.tmps[67]?.getD undef = .int .i64 ↑j := svf hk 6
   have f73 : a.tmps[73]?.getD undef = .int .i64 ↑(cols - k) := svf hk 12
   exact rs_run (wanted_none rfl) (exec_slice rfl (by simp [Act.eval, f66, f67, f73]) (by simp [Act.eval, f66, f67, f73]; try rfl) (by simp [Act.eval, f66, f67, f73]; try rfl) (run_mid w' g l.1.length c j (cols - k) (by omega) (by omega) (by omega) (by omega) (by omega))) (sp_same (by kernel_rfl) hl hs hS (show (.slice (some ⟨g, j * 16, none⟩) (cols - k - j) (c - j) : Value) = _ from rfl))
  apply sc
  ·intro a w' vs σ hS hl hs hk
   have e65 : a.tmps.getD 65 undef = .slice (tailA (some ⟨g, 0, none⟩) c (j + k)) (l.1.length - (j + k)) (c - (j + k)) := svv hk 4
   have e74 : a.tmps.getD 74 undef = .slice (some ⟨g, j * 16, none⟩) (cols - k - j) (c - j) := svv hk 13
   have h0 : σ[0]? = some (.cells (.slice (some ⟨g, 0, none⟩) l.1.length c) (brk (cols - k) (brk j l.1))) := hs 0 (by decide)
   obtain ⟨W, hr, hW⟩ := run_copyO hS (sg h0) (j + k) (j) (cols - k - j) (tailA (some ⟨g, 0, none⟩) c (j + k)) (some ⟨g, j * 16, none⟩) (l.1.length - (j + k)) (c - (j + k)) (cols - k - j) (c - j) (by show min (cols - k - j) (l.1.length - (j + k)) = _; omega) (by rw [brk_length, brk_length]; omega) (by rw [brk_length, brk_length]; omega) (fun hp => ⟨tailA_at (by omega), rfl⟩) 3
   exact rs_run (wanted_none rfl) (exec_copy rfl (by simp only [Act.eval]; exact e65) (by simp only [Act.eval]; exact e74) hr) (sp_set 0 _ (by kernel_rfl) (by simp) (by decide) hl hs (by rfl) hW trivial)
  exact SSteps.nil
 ·intro vs w' hS hv
  have q0 : vs 0 = _ := hv 0 (by decide)
  have q1 : vs 1 = _ := hv 1 (by decide)
  have q2 : vs 2 = _ := hv 2 (by decide)
  have q3 : vs 3 = _ := hv 3 (by decide)
  have q4 : vs 4 = _ := hv 4 (by decide)
  have q5 : vs 5 = _ := hv 5 (by decide)
  have q6 : vs 6 = _ := hv 6 (by decide)
  have q7 : vs 7 = _ := hv 7 (by decide)
  have q8 : vs 8 = _ := hv 8 (by decide)
  have q9 : vs 9 = _ := hv 9 (by decide)
  have q10 : vs 10 = _ := hv 10 (by decide)
  have q11 : vs 11 = _ := hv 11 (by decide)
  have q12 : vs 12 = _ := hv 12 (by decide)
  have q13 : vs 13 = _ := hv 13 (by decide)
  have S2 := Lib.hid hS
  simp only [putL, Act.put, Nat.zero_add, Nat.reduceAdd, List.setIfInBounds_toArray, List.set_cons_succ, List.set_cons_zero, q0, q1, q2, q3, q4, q5, q6, q7, q8, q9, q10, q11, q12, q13]
  clear hS hv q0 q1 q2 q3 q4 q5 q6 q7 q8 q9 q10 q11 q12 q13
  clear S5
  have S6 := S2
  clear S2
  have HCL := Lib.hid (show ((brk (cols - k) (brk j l.1)).take (j + k) ++ (((brk (cols - k) (brk j l.1)).drop j).take (cols - k - j) ++ (brk (cols - k) (brk j l.1)).drop (j + k + (cols - k - j)))).length = cols by simp only [List.length_append, List.length_take, List.length_drop, brk_length]; omega)
  go_upto_region 15 with (fail)
  refine wp_region_stage (w0 := w0) (os := os) (by kernel_rfl) (by kernel_rfl) (by kernel_rfl) [(0, 7, [], fun vs => .cells (.slice (some ⟨g, 0, none⟩) l.1.length c) (wipeC j (j + k - j) q ((brk (cols - k) (brk j l.1)).take (j + k) ++ (((brk (cols - k) (brk j l.1)).drop j).take (cols - k - j) ++ (brk (cols - k) (brk j l.1)).drop (j + k + (cols - k - j))))))] [[], [], [], [], [], [], [3], [0]] [.cells (.slice (some ⟨g, 0, none⟩) l.1.length c) ((brk (cols - k) (brk j l.1)).take (j + k) ++ (((brk (cols - k) (brk j l.1)).drop j).take (cols - k - j) ++ (brk (cols - k) (brk j l.1)).drop (j + k + (cols - k - j)))), .linesx (.slice (some ⟨gr, 0, none⟩) L.length cr) L i (.slice (some ⟨g, 0, none⟩) l.1.length c), .box p 58 #[.int .i64 ↑cols, .slice (some ⟨gr, 0, none⟩) L.length cr], .box b9 54 (pv q)] (fun i u => match i with | 0 => u = .slice (some ⟨g, 0, none⟩) l.1.length c | 1 => u = .int .i64 ↑j | 2 => u = .int .i64 ↑j | 3 => u = .int .i64 ↑k | 4 => u = .int .i64 ↑(j + k) | 5 => u = .slice (some ⟨g, j * 16, none⟩) (j + k - j) (c - j) | 6 => u = .agg (pv q) | 7 => u = .tuple #[] | _ => True) (fun vs => [.cells (.slice (some ⟨g, 0, none⟩) l.1.length c) (wipeC j (j + k - j) q ((brk (cols - k) (brk j l.1)).take (j + k) ++ (((brk (cols - k) (brk j l.1)).drop j).take (cols - k - j) ++ (brk (cols - k) (brk j l.1)).drop (j + k + (cols - k - j))))), .linesx (.slice (some ⟨gr, 0, none⟩) L.length cr) L i (.slice (some ⟨g, 0, none⟩) l.1.length c), .box p 58 #[.int .i64 ↑cols, .slice (some ⟨gr, 0, none⟩) L.length cr], .box b9 54 (pv q)]) (by kernel_rfl) (fun vs => by rfl) S6.out ?_ ?_
  ·apply sc
   ·intro a w' vs σ hS hl hs hk
    have f12 : a.tmps[12]?.getD undef = .slice (some ⟨g, 0, none⟩) l.1.length c := sof hk
    exact rp (.slice (some ⟨g, 0, none⟩) l.1.length c) (by simp [execOp, Act.eval, f12, go_sem]) hl hs hS
   apply sc
   ·intro a w' vs σ hS hl hs hk
    have f2 : a.tmps[2]?.getD undef = .int .i64 ↑j := sof hk
    exact rp (.int .i64 ↑j) (by simp [execOp, Act.eval, f2, go_sem]) hl hs hS
   apply sc
   ·intro a w' vs σ hS hl hs hk
    have f2 : a.tmps[2]?.getD undef = .int .i64 ↑j := sof hk
    exact rp (.int .i64 ↑j) (by simp [execOp, Act.eval, f2, go_sem]) hl hs hS
   apply sc
   ·intro a w' vs σ hS hl hs hk
    have f14 : a.tmps[14]?.getD undef = .int .i64 ↑k := sof hk
    exact rp (.int .i64 ↑k) (by simp [execOp, Act.eval, f14, go_sem]) hl hs hS
   apply sc
   ·intro a w' vs σ hS hl hs hk
    have f78 : a.tmps[78]?.getD undef = .int .i64 ↑j := svf hk 2
    have f79 : a.tmps[79]?.getD undef = .int .i64 ↑k := svf hk 3
    exact rp (.int .i64 ↑(j + k)) (by simp [execOp, Act.eval, f78, f79, go_sem, HW1.out]) hl hs hS
   apply sc
   ·intro a w' vs σ hS hl hs hk
    have f76 : a.tmps[76]?.getD undef = .slice (some ⟨g, 0, none⟩) l.1.length c := svf hk 0
    have f77 : a.tmps[77]?.getD undef = .int .i64 ↑j := svf hk 1
    have f80 : a.tmps[80]?.getD undef = .int .i64 ↑(j + k) := svf hk 4
    exact rs_run (wanted_none rfl) (exec_slice rfl (by simp [Act.eval, f76, f77, f80]) (by simp [Act.eval, f76, f77, f80]; try rfl) (by simp [Act.eval, f76, f77, f80]; try rfl) (run_mid w' g l.1.length c j (j + k) (by omega) (by omega) (by omega) (by omega) (by omega))) (sp_same (by kernel_rfl) hl hs hS (show (.slice (some ⟨g, j * 16, none⟩) (j + k - j) (c - j) : Value) = _ from rfl))
   apply sc
   ·intro a w' vs σ hS hl hs hk
    have f9 : a.tmps[9]?.getD undef = .pointer (some ⟨b9, 0, none⟩) := sof hk
    have hx := (hS.box (sg (hs 3 (by decide)))).penAt
    exact rp (.agg (pv q)) (by simp [execOp, Act.eval, f9, go_sem, hx]) hl hs hS
   apply sc
   ·intro a w' vs σ hS hl hs hk
    have e81 : a.tmps.getD 81 undef = .slice (some ⟨g, j * 16, none⟩) (j + k - j) (c - j) := svv hk 5
    have e82 : a.tmps.getD 82 undef = .agg (pv q) := svv hk 6
    have h0 : σ[0]? = some (.cells (.slice (some ⟨g, 0, none⟩) l.1.length c) ((brk (cols - k) (brk j l.1)).take (j + k) ++ (((brk (cols - k) (brk j l.1)).drop j).take (cols - k - j) ++ (brk (cols - k) (brk j l.1)).drop (j + k + (cols - k - j))))) := hs 0 (by decide)
    exact ro_call (f := 89) (wanted_none rfl) rfl (by simp only [List.map_toArray, List.map_cons, List.map_nil, Act.eval, e81, e82] <;> rfl) (fun _ _ => by kernel_rfl) ((front_call hS (sg h0) (fun os1 h => wipe_front g l.1.length c (j) (j + k - j) (c - j) ((brk (cols - k) (brk j l.1)).take (j + k) ++ (((brk (cols - k) (brk j l.1)).drop j).take (cols - k - j) ++ (brk (cols - k) (brk j l.1)).drop (j + k + (cols - k - j)))) q w0 w' os1 h (by have := HCL.out; omega) (by omega) (by have := HCL.out; omega))).mono fun e w2 ⟨h1, h2⟩ => ⟨_, h1, sp_set 0 _ (by kernel_rfl) (by simp) (by decide) hl hs (by rfl) h2 rfl, trivial⟩)
   exact SSteps.nil
  ·intro vs w' hS hv
   have q0 : vs 0 = _ := hv 0 (by decide)
   have q1 : vs 1 = _ := hv 1 (by decide)
   have q2 : vs 2 = _ := hv 2 (by decide)
   have q3 : vs 3 = _ := hv 3 (by decide)
   have q4 : vs 4 = _ := hv 4 (by decide)
   have q5 : vs 5 = _ := hv 5 (by decide)
   have q6 : vs 6 = _ := hv 6 (by decide)
   have q7 : vs 7 = _ := hv 7 (by decide)
   have S2 := Lib.hid hS
   simp only [putL, Act.put, Nat.zero_add, Nat.reduceAdd, List.setIfInBounds_toArray, List.set_cons_succ, List.set_cons_zero, q0, q1, q2, q3, q4, q5, q6, q7]
   clear hS hv q0 q1 q2 q3 q4 q5 q6 q7
   have HF := (show Objs w0 w' (_ :: _ :: _ :: _ :: os) from S2.out).closeAt HL.out
   rw [HP.out] at HF
   go_wp2_with fail
   go_ret
   exact ⟨rfl, HF.drop2⟩
set_option maxRecDepth 100000 in
set_option maxHeartbeats 1000000 in
theorem Shift_none {row col n : Int} (q : Pen) (hT : Tabs w0) (hS : Objs w0 w (.grid p 58 cols L :: os)) (hc : 0 < cols) (hcm : cols ≤ 1000) (hin : (0 ≤ row ∧ row < L.length) ∧ 0 ≤ col ∧ col < cols) (hq : q.ok = true) (hn : n = 0) :
  Calls Tryd.prog 52 #[.pointer (some ⟨p, 0, none⟩), .int .i64 row, .int .i64 col, .int .i64 n, .agg (pv q)] w fun e w' => e = .returned (.int .i64 0) ∧ Objs w0 w' (.grid p 58 cols L :: os) := by
 have S := Lib.hid hS
 have HT := Lib.hid hT
 have HE := Lib.hid (show atE row col cols L = 0 by unfold atE; rw [if_pos hin])
 clear hin
 have HQ := Lib.hid hq
 subst hn
 clear hq
 clear hS hT
 go_enter Tryd.func52, Tryd.ntmps52
 go_wp2_with fail
 refine (at_any row col S.out.alloc1 (k := 1) rfl hc).mono ?_
 rw [HE.out]
 rintro e w1 ⟨rfl, hS⟩
 have S1 := Lib.hid hS
 obtain ⟨A0, c0, hB0, -, -⟩ := hS.gridRd (k := 1) rfl
 obtain ⟨hx0, hf0, hz0⟩ := hB0.facts
 obtain ⟨hx9, hf9, hz9, hp9⟩ := (hS.box (k := 0) rfl).pbox
 clear hS S hB0
 generalize w.heap.size = b9 at S1 hx9 hf9 hz9 hp9 ⊢
 go_wp2_with fail
 refine (inked_is HQ.out HT.out S1.out).mono ?_
 rintro e w2 ⟨rfl, hS⟩
 have S2 := Lib.hid hS
 clear hS
 go_wp2_with fail
 go_ret
 exact ⟨rfl, S2.out.tail⟩
set_option maxRecDepth 100000 in
set_option maxHeartbeats 4000000 in
theorem Shift_left1 {i j k : Nat} {l : Ln} (q : Pen) (hT : Tabs w0) (hS : Objs w0 w (.grid p 58 cols L :: os)) (hc : 0 < cols) (hcm : cols ≤ 1000) (hl : L[i]? = some l) (hrow : l.1.length = cols) (hq : q.ok = true) (hj : j < cols) (hk1 : 1 ≤ k) (hk2 : j + k < cols) :
  Calls Tryd.prog 52 #[.pointer (some ⟨p, 0, none⟩), .int .i64 i, .int .i64 j, .int .i64 (-(k : Int)), .agg (pv q)] w fun e w' => e = .returned (.int .i64 0) ∧ Objs w0 w' (.grid p 58 cols (L.set i (shiftL j k q l.1, l.2)) :: os) := by
 have S := Lib.hid hS
 have hi : i < L.length := (List.getElem?_eq_some_iff.1 hl).1
 have HL := Lib.hid hl
 have HT := Lib.hid hT
 have HQ := Lib.hid hq
 have HROW := Lib.hid hrow
 have hlr : l.1.length ≤ 1000 := by omega
 have hlr2 : cols ≤ l.1.length := by omega
 have hlr3 : l.1.length ≤ cols := by omega
 have HE := Lib.hid (show atE i j cols L = 0 by unfold atE; rw [if_pos ⟨⟨by omega, by omega⟩, by omega, by omega⟩])
 have hkj : j + k ≤ cols := by omega
 have hk1 : 1 ≤ k := by omega
 have hn0 : ((-(k : Int)) == 0) = false := by simp; omega
 have hng : ¬ (0 < -(k : Int)) := by omega
 have hcmp : -((cols : Int) - j) < -(k : Int) := by omega
 have HP := Lib.hid (show wipeC (cols - k) (l.1.length - (cols - k)) q ((brk (j + k) (brk j l.1)).take j ++ (((brk (j + k) (brk j l.1)).drop (j + k)).take (cols - (j + k)) ++ (brk (j + k) (brk j l.1)).drop (j + (cols - (j + k))))) = shiftL j k q l.1 by
  have hb : (brk (j + k) (brk j l.1)).length = cols := by rw [brk_length, brk_length, hrow]
  have h := shiftL_is (j := j) (k := k) (q := q) (l := brk (j + k) (brk j l.1)) (by omega)
  rw [hb] at h
  rw [show l.1.length - (cols - k) = k by omega, h]
  rfl)
 clear hS hT hl hrow hq
 go_enter Tryd.func52, Tryd.ntmps52
 go_wp2_with fail
 refine (at_any i j S.out.alloc1 (k := 1) rfl hc).mono ?_
 rw [HE.out]
 rintro e w1 ⟨rfl, hS⟩
 have S1 := Lib.hid hS
 obtain ⟨A0, c0, hB0, -, -⟩ := hS.gridRd (k := 1) rfl
 obtain ⟨hx0, hf0, hz0⟩ := hB0.facts
 obtain ⟨hx9, hf9, hz9, hp9⟩ := (hS.box (k := 0) rfl).pbox
 clear hS S hB0
 generalize w.heap.size = b9 at S1 hx9 hf9 hz9 hp9 ⊢
 go_wp2_with fail
 refine (inked_is HQ.out HT.out S1.out).mono ?_
 rintro e w2 ⟨rfl, hS⟩
 have S2 := Lib.hid hS
 clear hS hx0 hf0 hz0 hx9 hf9 hz9 hp9
 obtain ⟨v, b, hS3⟩ := S2.out.swap.openAt HL.out
 obtain ⟨A, c, rfl, hrd⟩ := hS3.cellsRd (k := 0) rfl
 have hnc : l.1.length ≤ c := hrd.1
 obtain ⟨g, rfl, -, -, -, -⟩ := (hS3.own (k := 0) rfl).head (by omega)
 obtain ⟨gr, cr, rfl, h1, h2, h3, h4, h5, h6, h7⟩ := hS3.linesxRd (k := 1) rfl
 obtain ⟨hx2, hf2, hz2⟩ := (hS3.box (k := 2) rfl).facts
 have hlen2 : L.length ≤ 9223372036854775807 := by unfold maxLen at h2; omega
 have S3 := Lib.hid hS3
 clear hS3 h1 h2 h6 hrd
 go_wp2_with fail
 refine (split_at (c := j) S3.out rfl rfl (by omega) (by omega)).mono ?_
 rintro e w4 ⟨rfl, hS4⟩
 have S4 := Lib.hid hS4
 obtain ⟨hx2, hf2, hz2⟩ := (hS4.box (k := 2) rfl).facts
 clear hS4 h4 h5 h7
 go_wp2_with fail
 refine (split_at (c := j + k) S4.out (by rw [brk_length]) (by omega) (by rw [brk_length]; omega) (by omega)).mono ?_
 rintro e w5 ⟨rfl, hS5⟩
 have S5 := Lib.hid hS5
 have HW1 := Lib.hid (show IntKind.i64.wrap ((j : Int) + k) = ((j + k : Nat) : Int) by rw [IntWalk.i64_in _ (by omega)]; omega)
 have HW2 := Lib.hid (show IntKind.i64.wrap ((cols : Int) - k) = ((cols - k : Nat) : Int) by rw [IntWalk.i64_in _ (by omega)]; omega)
 clear hS5 hx2 hf2 hz2 hn0 hng hcmp
 go_upto_region 21 with (fail)
 refine wp_region_stage (w0 := w0) (os := os) (by kernel_rfl) (by kernel_rfl) (by kernel_rfl) [(0, 8, [], fun vs => .cells (.slice (some ⟨g, 0, none⟩) l.1.length c) ((brk (j + k) (brk j l.1)).take j ++ (((brk (j + k) (brk j l.1)).drop (j + k)).take (cols - (j + k)) ++ (brk (j + k) (brk j l.1)).drop (j + (cols - (j + k))))))] [[], [], [], [], [], [], [], [], [0]] [.cells (.slice (some ⟨g, 0, none⟩) l.1.length c) (brk (j + k) (brk j l.1)), .linesx (.slice (some ⟨gr, 0, none⟩) L.length cr) L i (.slice (some ⟨g, 0, none⟩) l.1.length c), .box p 58 #[.int .i64 ↑cols, .slice (some ⟨gr, 0, none⟩) L.length cr], .box b9 54 (pv q)] (fun i u => match i with | 0 => u = .slice (some ⟨g, 0, none⟩) l.1.length c | 1 => u = .int .i64 ↑j | 2 => u = .slice (tailA (some ⟨g, 0, none⟩) c j) (l.1.length - j) (c - j) | 3 => u = .slice (some ⟨g, 0, none⟩) l.1.length c | 4 => u = .int .i64 ↑j | 5 => u = .int .i64 ↑k | 6 => u = .int .i64 ↑(j + k) | 7 => u = .slice (tailA (some ⟨g, 0, none⟩) c (j + k)) (l.1.length - (j + k)) (c - (j + k)) | 8 => True | _ => True) (fun vs => [.cells (.slice (some ⟨g, 0, none⟩) l.1.length c) ((brk (j + k) (brk j l.1)).take j ++ (((brk (j + k) (brk j l.1)).drop (j + k)).take (cols - (j + k)) ++ (brk (j + k) (brk j l.1)).drop (j + (cols - (j + k))))), .linesx (.slice (some ⟨gr, 0, none⟩) L.length cr) L i (.slice (some ⟨g, 0, none⟩) l.1.length c), .box p 58 #[.int .i64 ↑cols, .slice (some ⟨gr, 0, none⟩) L.length cr], .box b9 54 (pv q)]) (by kernel_rfl) (fun vs => by rfl) S5.out ?_ ?_
 ·apply sc
  ·intro a w' vs σ hS hl hs hk
   have f12 : a.tmps[12]?.getD undef = .slice (some ⟨g, 0, none⟩) l.1.length c := sof hk
   exact rp (.slice (some ⟨g, 0, none⟩) l.1.length c) (by simp [execOp, Act.eval, f12, go_sem]) hl hs hS
  apply sc
  ·intro a w' vs σ hS hl hs hk
   have f2 : a.tmps[2]?.getD undef = .int .i64 ↑j := sof hk
   exact rp (.int .i64 ↑j) (by simp [execOp, Act.eval, f2, go_sem]) hl hs hS
  apply sc
  ·intro a w' vs σ hS hl hs hk
   have f96 : a.tmps[96]?.getD undef = .slice (some ⟨g, 0, none⟩) l.1.length c := svf hk 0
   have f97 : a.tmps[97]?.getD undef = .int .i64 ↑j := svf hk 1
   exact rs_run (wanted_none rfl) (exec_slice rfl (by simp [Act.eval, f96, f97]) (by simp [Act.eval, f96, f97]; try rfl) (by simp [Act.eval, f96, f97]; try rfl) (run_from w' (some ⟨g, 0, none⟩) l.1.length c j (by omega) (by omega) (fun h => by cases h) (by omega))) (sp_same (by kernel_rfl) hl hs hS (show (.slice (tailA (some ⟨g, 0, none⟩) c j) (l.1.length - j) (c - j) : Value) = _ from rfl))
  apply sc
  ·intro a w' vs σ hS hl hs hk
   have f12 : a.tmps[12]?.getD undef = .slice (some ⟨g, 0, none⟩) l.1.length c := sof hk
   exact rp (.slice (some ⟨g, 0, none⟩) l.1.length c) (by simp [execOp, Act.eval, f12, go_sem]) hl hs hS
  apply sc
  ·intro a w' vs σ hS hl hs hk
   have f2 : a.tmps[2]?.getD undef = .int .i64 ↑j := sof hk
   exact rp (.int .i64 ↑j) (by simp [execOp, Act.eval, f2, go_sem]) hl hs hS
  apply sc
  ·intro a w' vs σ hS hl hs hk
   have f15 : a.tmps[15]?.getD undef = .int .i64 ↑k := sof hk
   exact rp (.int .i64 ↑k) (by simp [execOp, Act.eval, f15, go_sem]) hl hs hS
  apply sc
  ·intro a w' vs σ hS hl hs hk
   have f100 : a.tmps[100]?.getD undef = .int .i64 ↑j := svf hk 4
   have f101 : a.tmps[101]?.getD undef = .int .i64 ↑k := svf hk 5
   exact rp (.int .i64 ↑(j + k)) (by simp [execOp, Act.eval, f100, f101, go_sem, HW1.out]) hl hs hS
  apply sc
  ·intro a w' vs σ hS hl hs hk
   have f99 : a.tmps[99]?.getD undef = .slice (some ⟨g, 0, none⟩) l.1.length c := svf hk 3
   have f102 : a.tmps[102]?.getD undef = .int .i64 ↑(j + k) := svf hk 6
   exact rs_run (wanted_none rfl) (exec_slice rfl (by simp [Act.eval, f99, f102]) (by simp [Act.eval, f99, f102]; try rfl) (by simp [Act.eval, f99, f102]; try rfl) (run_from w' (some ⟨g, 0, none⟩) l.1.length c (j + k) (by omega) (by omega) (fun h => by cases h) (by omega))) (sp_same (by kernel_rfl) hl hs hS (show (.slice (tailA (some ⟨g, 0, none⟩) c (j + k)) (l.1.length - (j + k)) (c - (j + k)) : Value) = _ from rfl))
  apply sc
  ·intro a w' vs σ hS hl hs hk
   have e98 : a.tmps.getD 98 undef = .slice (tailA (some ⟨g, 0, none⟩) c j) (l.1.length - j) (c - j) := svv hk 2
   have e103 : a.tmps.getD 103 undef = .slice (tailA (some ⟨g, 0, none⟩) c (j + k)) (l.1.length - (j + k)) (c - (j + k)) := svv hk 7
   have h0 : σ[0]? = some (.cells (.slice (some ⟨g, 0, none⟩) l.1.length c) (brk (j + k) (brk j l.1))) := hs 0 (by decide)
   obtain ⟨W, hr, hW⟩ := run_copyO hS (sg h0) (j) (j + k) (cols - (j + k)) (tailA (some ⟨g, 0, none⟩) c j) (tailA (some ⟨g, 0, none⟩) c (j + k)) (l.1.length - j) (c - j) (l.1.length - (j + k)) (c - (j + k)) (by show min (l.1.length - (j + k)) (l.1.length - j) = _; omega) (by rw [brk_length, brk_length]; omega) (by rw [brk_length, brk_length]; omega) (fun hp => ⟨tailA_at (by omega), tailA_at (by omega)⟩) 3
   exact rs_run (wanted_none rfl) (exec_copy rfl (by simp only [Act.eval]; exact e98) (by simp only [Act.eval]; exact e103) hr) (sp_set 0 _ (by kernel_rfl) (by simp) (by decide) hl hs (by rfl) hW trivial)
  exact SSteps.nil
 ·intro vs w' hS hv
  have q0 : vs 0 = _ := hv 0 (by decide)
  have q1 : vs 1 = _ := hv 1 (by decide)
  have q2 : vs 2 = _ := hv 2 (by decide)
  have q3 : vs 3 = _ := hv 3 (by decide)
  have q4 : vs 4 = _ := hv 4 (by decide)
  have q5 : vs 5 = _ := hv 5 (by decide)
  have q6 : vs 6 = _ := hv 6 (by decide)
  have q7 : vs 7 = _ := hv 7 (by decide)
  have S2 := Lib.hid hS
  simp only [putL, Act.put, Nat.zero_add, Nat.reduceAdd, List.setIfInBounds_toArray, List.set_cons_succ, List.set_cons_zero, q0, q1, q2, q3, q4, q5, q6, q7]
  clear hS hv q0 q1 q2 q3 q4 q5 q6 q7
  clear S5
  have S6 := S2
  clear S2
  have HCL := Lib.hid (show ((brk (j + k) (brk j l.1)).take j ++ (((brk (j + k) (brk j l.1)).drop (j + k)).take (cols - (j + k)) ++ (brk (j + k) (brk j l.1)).drop (j + (cols - (j + k))))).length = cols by simp only [List.length_append, List.length_take, List.length_drop, brk_length]; omega)
  go_upto_region 22 with (fail)
  refine wp_region_stage (w0 := w0) (os := os) (by kernel_rfl) (by kernel_rfl) (by kernel_rfl) [(0, 9, [], fun vs => .cells (.slice (some ⟨g, 0, none⟩) l.1.length c) (wipeC (cols - k) (l.1.length - (cols - k)) q ((brk (j + k) (brk j l.1)).take j ++ (((brk (j + k) (brk j l.1)).drop (j + k)).take (cols - (j + k)) ++ (brk (j + k) (brk j l.1)).drop (j + (cols - (j + k)))))))] [[], [], [], [], [2], [], [], [], [3], [0]] [.cells (.slice (some ⟨g, 0, none⟩) l.1.length c) ((brk (j + k) (brk j l.1)).take j ++ (((brk (j + k) (brk j l.1)).drop (j + k)).take (cols - (j + k)) ++ (brk (j + k) (brk j l.1)).drop (j + (cols - (j + k))))), .linesx (.slice (some ⟨gr, 0, none⟩) L.length cr) L i (.slice (some ⟨g, 0, none⟩) l.1.length c), .box p 58 #[.int .i64 ↑cols, .slice (some ⟨gr, 0, none⟩) L.length cr], .box b9 54 (pv q)] (fun i u => match i with | 0 => u = .slice (some ⟨g, 0, none⟩) l.1.length c | 1 => u = .pointer (some ⟨p, 0, none⟩) | 2 => u = .pointer (some ⟨p, 0, none⟩) | 3 => u = .pointer (some ⟨p, 0, none⟩) | 4 => u = .int .i64 ↑cols | 5 => u = .int .i64 ↑k | 6 => u = .int .i64 ↑(cols - k) | 7 => u = .slice (tailA (some ⟨g, 0, none⟩) c (cols - k)) (l.1.length - (cols - k)) (c - (cols - k)) | 8 => u = .agg (pv q) | 9 => u = .tuple #[] | _ => True) (fun vs => [.cells (.slice (some ⟨g, 0, none⟩) l.1.length c) (wipeC (cols - k) (l.1.length - (cols - k)) q ((brk (j + k) (brk j l.1)).take j ++ (((brk (j + k) (brk j l.1)).drop (j + k)).take (cols - (j + k)) ++ (brk (j + k) (brk j l.1)).drop (j + (cols - (j + k)))))), .linesx (.slice (some ⟨gr, 0, none⟩) L.length cr) L i (.slice (some ⟨g, 0, none⟩) l.1.length c), .box p 58 #[.int .i64 ↑cols, .slice (some ⟨gr, 0, none⟩) L.length cr], .box b9 54 (pv q)]) (by kernel_rfl) (fun vs => by rfl) S6.out ?_ ?_
  ·apply sc
   ·intro a w' vs σ hS hl hs hk
    have f12 : a.tmps[12]?.getD undef = .slice (some ⟨g, 0, none⟩) l.1.length c := sof hk
    exact rp (.slice (some ⟨g, 0, none⟩) l.1.length c) (by simp [execOp, Act.eval, f12, go_sem]) hl hs hS
   apply sc
   ·intro a w' vs σ hS hl hs hk
    have f0 : a.tmps[0]?.getD undef = .pointer (some ⟨p, 0, none⟩) := sof hk
    exact rp (pt p 0) (by simp [execOp, Act.eval, f0, go_sem]) hl hs hS
   apply sc
   ·intro a w' vs σ hS hl hs hk
    have f106 : a.tmps[106]?.getD undef = .pointer (some ⟨p, 0, none⟩) := svf hk 1
    exact rp (pt p 0) (by simp [execOp, Act.eval, f106, go_sem]) hl hs hS
   apply sc
   ·intro a w' vs σ hS hl hs hk
    have f107 : a.tmps[107]?.getD undef = .pointer (some ⟨p, 0, none⟩) := svf hk 2
    exact rp (pt p 0) (by simp [execOp, Act.eval, f107, go_sem]) hl hs hS
   apply sc
   ·intro a w' vs σ hS hl hs hk
    have f108 : a.tmps[108]?.getD undef = .pointer (some ⟨p, 0, none⟩) := svf hk 3
    have hx := (hS.box (sg (hs 2 (by decide)))).cell
    exact rp (.int .i64 ↑cols) (by simp [execOp, Act.eval, f108, go_sem, hx]) hl hs hS
   apply sc
   ·intro a w' vs σ hS hl hs hk
    have f15 : a.tmps[15]?.getD undef = .int .i64 ↑k := sof hk
    exact rp (.int .i64 ↑k) (by simp [execOp, Act.eval, f15, go_sem]) hl hs hS
   apply sc
   ·intro a w' vs σ hS hl hs hk
    have f109 : a.tmps[109]?.getD undef = .int .i64 ↑cols := svf hk 4
    have f110 : a.tmps[110]?.getD undef = .int .i64 ↑k := svf hk 5
    exact rp (.int .i64 ↑(cols - k)) (by simp [execOp, Act.eval, f109, f110, go_sem, HW2.out]) hl hs hS
   apply sc
   ·intro a w' vs σ hS hl hs hk
    have f105 : a.tmps[105]?.getD undef = .slice (some ⟨g, 0, none⟩) l.1.length c := svf hk 0
    have f111 : a.tmps[111]?.getD undef = .int .i64 ↑(cols - k) := svf hk 6
    exact rs_run (wanted_none rfl) (exec_slice rfl (by simp [Act.eval, f105, f111]) (by simp [Act.eval, f105, f111]; try rfl) (by simp [Act.eval, f105, f111]; try rfl) (run_from w' (some ⟨g, 0, none⟩) l.1.length c (cols - k) (by omega) (by omega) (fun h => by cases h) (by omega))) (sp_same (by kernel_rfl) hl hs hS (show (.slice (tailA (some ⟨g, 0, none⟩) c (cols - k)) (l.1.length - (cols - k)) (c - (cols - k)) : Value) = _ from rfl))
   apply sc
   ·intro a w' vs σ hS hl hs hk
    have f9 : a.tmps[9]?.getD undef = .pointer (some ⟨b9, 0, none⟩) := sof hk
    have hx := (hS.box (sg (hs 3 (by decide)))).penAt
    exact rp (.agg (pv q)) (by simp [execOp, Act.eval, f9, go_sem, hx]) hl hs hS
   apply sc
   ·intro a w' vs σ hS hl hs hk
    have e112 : a.tmps.getD 112 undef = .slice (tailA (some ⟨g, 0, none⟩) c (cols - k)) (l.1.length - (cols - k)) (c - (cols - k)) := svv hk 7
    have e113 : a.tmps.getD 113 undef = .agg (pv q) := svv hk 8
    have h0 : σ[0]? = some (.cells (.slice (some ⟨g, 0, none⟩) l.1.length c) ((brk (j + k) (brk j l.1)).take j ++ (((brk (j + k) (brk j l.1)).drop (j + k)).take (cols - (j + k)) ++ (brk (j + k) (brk j l.1)).drop (j + (cols - (j + k)))))) := hs 0 (by decide)
    rw [tailA_at (by omega)] at e112
    exact ro_call (f := 89) (wanted_none rfl) rfl (by simp only [List.map_toArray, List.map_cons, List.map_nil, Act.eval, e112, e113] <;> rfl) (fun _ _ => by kernel_rfl) ((front_call hS (sg h0) (fun os1 h => wipe_front g l.1.length c (cols - k) (l.1.length - (cols - k)) (c - (cols - k)) ((brk (j + k) (brk j l.1)).take j ++ (((brk (j + k) (brk j l.1)).drop (j + k)).take (cols - (j + k)) ++ (brk (j + k) (brk j l.1)).drop (j + (cols - (j + k))))) q w0 w' os1 h (by have := HCL.out; omega) (by omega) (by have := HCL.out; omega))).mono fun e w2 ⟨h1, h2⟩ => ⟨_, h1, sp_set 0 _ (by kernel_rfl) (by simp) (by decide) hl hs (by rfl) h2 rfl, trivial⟩)
   exact SSteps.nil
  ·intro vs w' hS hv
   have q0 : vs 0 = _ := hv 0 (by decide)
   have q1 : vs 1 = _ := hv 1 (by decide)
   have q2 : vs 2 = _ := hv 2 (by decide)
   have q3 : vs 3 = _ := hv 3 (by decide)
   have q4 : vs 4 = _ := hv 4 (by decide)
   have q5 : vs 5 = _ := hv 5 (by decide)
   have q6 : vs 6 = _ := hv 6 (by decide)
   have q7 : vs 7 = _ := hv 7 (by decide)
   have q8 : vs 8 = _ := hv 8 (by decide)
   have q9 : vs 9 = _ := hv 9 (by decide)
   have S2 := Lib.hid hS
   simp only [putL, Act.put, Nat.zero_add, Nat.reduceAdd, List.setIfInBounds_toArray, List.set_cons_succ, List.set_cons_zero, q0, q1, q2, q3, q4, q5, q6, q7, q8, q9]
   clear hS hv q0 q1 q2 q3 q4 q5 q6 q7 q8 q9
   have HF := (show Objs w0 w' (_ :: _ :: _ :: _ :: os) from S2.out).closeAt HL.out
   rw [HP.out] at HF
   go_wp2_with fail
   go_ret
   exact ⟨rfl, HF.drop2⟩
set_option maxRecDepth 100000 in
set_option maxHeartbeats 4000000 in
theorem Shift_left2 {i j k : Nat} {l : Ln} (q : Pen) (hT : Tabs w0) (hS : Objs w0 w (.grid p 58 cols L :: os)) (hc : 0 < cols) (hcm : cols ≤ 1000) (hl : L[i]? = some l) (hrow : l.1.length = cols) (hq : q.ok = true) (n : Int) (hj : j < cols) (hk3 : j + k = cols) (hn : n ≤ -(k : Int)) (hn2 : -9223372036854775808 ≤ n) :
  Calls Tryd.prog 52 #[.pointer (some ⟨p, 0, none⟩), .int .i64 i, .int .i64 j, .int .i64 n, .agg (pv q)] w fun e w' => e = .returned (.int .i64 0) ∧ Objs w0 w' (.grid p 58 cols (L.set i (shiftL j k q l.1, l.2)) :: os) := by
 have S := Lib.hid hS
 have hi : i < L.length := (List.getElem?_eq_some_iff.1 hl).1
 have HL := Lib.hid hl
 have HT := Lib.hid hT
 have HQ := Lib.hid hq
 have HROW := Lib.hid hrow
 have hlr : l.1.length ≤ 1000 := by omega
 have hlr2 : cols ≤ l.1.length := by omega
 have hlr3 : l.1.length ≤ cols := by omega
 have HE := Lib.hid (show atE i j cols L = 0 by unfold atE; rw [if_pos ⟨⟨by omega, by omega⟩, by omega, by omega⟩])
 have hkj : j + k ≤ cols := by omega
 have hk1 : 1 ≤ k := by omega
 have hn0 : (n == 0) = false := by simp; omega
 have hng : ¬ (0 < n) := by omega
 have hcmp : ¬ (-((cols : Int) - j) < n) := by omega
 have hck : (cols : Int) - j = k := by omega
 have HP := Lib.hid (show wipeC (cols - k) (l.1.length - (cols - k)) q ((brk (j + k) (brk j l.1)).take j ++ (((brk (j + k) (brk j l.1)).drop (j + k)).take (cols - (j + k)) ++ (brk (j + k) (brk j l.1)).drop (j + (cols - (j + k))))) = shiftL j k q l.1 by
  have hb : (brk (j + k) (brk j l.1)).length = cols := by rw [brk_length, brk_length, hrow]
  have h := shiftL_is (j := j) (k := k) (q := q) (l := brk (j + k) (brk j l.1)) (by omega)
  rw [hb] at h
  rw [show l.1.length - (cols - k) = k by omega, h]
  rfl)
 clear hS hT hl hrow hq
 go_enter Tryd.func52, Tryd.ntmps52
 go_wp2_with fail
 refine (at_any i j S.out.alloc1 (k := 1) rfl hc).mono ?_
 rw [HE.out]
 rintro e w1 ⟨rfl, hS⟩
 have S1 := Lib.hid hS
 obtain ⟨A0, c0, hB0, -, -⟩ := hS.gridRd (k := 1) rfl
 obtain ⟨hx0, hf0, hz0⟩ := hB0.facts
 obtain ⟨hx9, hf9, hz9, hp9⟩ := (hS.box (k := 0) rfl).pbox
 clear hS S hB0
 generalize w.heap.size = b9 at S1 hx9 hf9 hz9 hp9 ⊢
 go_wp2_with fail
 refine (inked_is HQ.out HT.out S1.out).mono ?_
 rintro e w2 ⟨rfl, hS⟩
 have S2 := Lib.hid hS
 clear hS hx0 hf0 hz0 hx9 hf9 hz9 hp9
 obtain ⟨v, b, hS3⟩ := S2.out.swap.openAt HL.out
 obtain ⟨A, c, rfl, hrd⟩ := hS3.cellsRd (k := 0) rfl
 have hnc : l.1.length ≤ c := hrd.1
 obtain ⟨g, rfl, -, -, -, -⟩ := (hS3.own (k := 0) rfl).head (by omega)
 obtain ⟨gr, cr, rfl, h1, h2, h3, h4, h5, h6, h7⟩ := hS3.linesxRd (k := 1) rfl
 obtain ⟨hx2, hf2, hz2⟩ := (hS3.box (k := 2) rfl).facts
 have hlen2 : L.length ≤ 9223372036854775807 := by unfold maxLen at h2; omega
 have S3 := Lib.hid hS3
 clear hS3 h1 h2 h6 hrd
 go_wp2_with fail
 refine (split_at (c := j) S3.out rfl rfl (by omega) (by omega)).mono ?_
 rintro e w4 ⟨rfl, hS4⟩
 have S4 := Lib.hid hS4
 obtain ⟨hx2, hf2, hz2⟩ := (hS4.box (k := 2) rfl).facts
 clear hS4 h4 h5 h7
 go_wp2_with fail
 refine (split_at (c := j + k) S4.out (by rw [brk_length]) (by omega) (by rw [brk_length]; omega) (by omega)).mono ?_
 rintro e w5 ⟨rfl, hS5⟩
 have S5 := Lib.hid hS5
 have HW1 := Lib.hid (show IntKind.i64.wrap ((j : Int) + k) = ((j + k : Nat) : Int) by rw [IntWalk.i64_in _ (by omega)]; omega)
 have HW2 := Lib.hid (show IntKind.i64.wrap ((cols : Int) - k) = ((cols - k : Nat) : Int) by rw [IntWalk.i64_in _ (by omega)]; omega)
 clear hS5 hx2 hf2 hz2 hn0 hng hcmp
 go_upto_region 21 with (fail)
 refine wp_region_stage (w0 := w0) (os := os) (by kernel_rfl) (by kernel_rfl) (by kernel_rfl) [(0, 8, [], fun vs => .cells (.slice (some ⟨g, 0, none⟩) l.1.length c) ((brk (j + k) (brk j l.1)).take j ++ (((brk (j + k) (brk j l.1)).drop (j + k)).take (cols - (j + k)) ++ (brk (j + k) (brk j l.1)).drop (j + (cols - (j + k))))))] [[], [], [], [], [], [], [], [], [0]] [.cells (.slice (some ⟨g, 0, none⟩) l.1.length c) (brk (j + k) (brk j l.1)), .linesx (.slice (some ⟨gr, 0, none⟩) L.length cr) L i (.slice (some ⟨g, 0, none⟩) l.1.length c), .box p 58 #[.int .i64 ↑cols, .slice (some ⟨gr, 0, none⟩) L.length cr], .box b9 54 (pv q)] (fun i u => match i with | 0 => u = .slice (some ⟨g, 0, none⟩) l.1.length c | 1 => u = .int .i64 ↑j | 2 => u = .slice (tailA (some ⟨g, 0, none⟩) c j) (l.1.length - j) (c - j) | 3 => u = .slice (some ⟨g, 0, none⟩) l.1.length c | 4 => u = .int .i64 ↑j | 5 => u = .int .i64 ↑k | 6 => u = .int .i64 ↑(j + k) | 7 => u = .slice (tailA (some ⟨g, 0, none⟩) c (j + k)) (l.1.length - (j + k)) (c - (j + k)) | 8 => True | _ => True) (fun vs => [.cells (.slice (some ⟨g, 0, none⟩) l.1.length c) ((brk (j + k) (brk j l.1)).take j ++ (((brk (j + k) (brk j l.1)).drop (j + k)).take (cols - (j + k)) ++ (brk (j + k) (brk j l.1)).drop (j + (cols - (j + k))))), .linesx (.slice (some ⟨gr, 0, none⟩) L.length cr) L i (.slice (some ⟨g, 0, none⟩) l.1.length c), .box p 58 #[.int .i64 ↑cols, .slice (some ⟨gr, 0, none⟩) L.length cr], .box b9 54 (pv q)]) (by kernel_rfl) (fun vs => by rfl) S5.out ?_ ?_
 ·apply sc
  ·intro a w' vs σ hS hl hs hk
   have f12 : a.tmps[12]?.getD undef = .slice (some ⟨g, 0, none⟩) l.1.length c := sof hk
   exact rp (.slice (some ⟨g, 0, none⟩) l.1.length c) (by simp [execOp, Act.eval, f12, go_sem]) hl hs hS
  apply sc
  ·intro a w' vs σ hS hl hs hk
   have f2 : a.tmps[2]?.getD undef = .int .i64 ↑j := sof hk
   exact rp (.int .i64 ↑j) (by simp [execOp, Act.eval, f2, go_sem]) hl hs hS
  apply sc
  ·intro a w' vs σ hS hl hs hk
   have f96 : a.tmps[96]?.getD undef = .slice (some ⟨g, 0, none⟩) l.1.length c := svf hk 0
   have f97 : a.tmps[97]?.getD undef = .int .i64 ↑j := svf hk 1
   exact rs_run (wanted_none rfl) (exec_slice rfl (by simp [Act.eval, f96, f97]) (by simp [Act.eval, f96, f97]; try rfl) (by simp [Act.eval, f96, f97]; try rfl) (run_from w' (some ⟨g, 0, none⟩) l.1.length c j (by omega) (by omega) (fun h => by cases h) (by omega))) (sp_same (by kernel_rfl) hl hs hS (show (.slice (tailA (some ⟨g, 0, none⟩) c j) (l.1.length - j) (c - j) : Value) = _ from rfl))
  apply sc
  ·intro a w' vs σ hS hl hs hk
   have f12 : a.tmps[12]?.getD undef = .slice (some ⟨g, 0, none⟩) l.1.length c := sof hk
   exact rp (.slice (some ⟨g, 0, none⟩) l.1.length c) (by simp [execOp, Act.eval, f12, go_sem]) hl hs hS
  apply sc
  ·intro a w' vs σ hS hl hs hk
   have f2 : a.tmps[2]?.getD undef = .int .i64 ↑j := sof hk
   exact rp (.int .i64 ↑j) (by simp [execOp, Act.eval, f2, go_sem]) hl hs hS
  apply sc
  ·intro a w' vs σ hS hl hs hk
   have f15 : a.tmps[15]?.getD undef = .int .i64 ↑k := sof hk
   exact rp (.int .i64 ↑k) (by simp [execOp, Act.eval, f15, go_sem]) hl hs hS
  apply sc
  ·intro a w' vs σ hS hl hs hk
   have f100 : a.tmps[100]?.getD undef = .int .i64 ↑j := svf hk 4
   have f101 : a.tmps[101]?.getD undef = .int .i64 ↑k := svf hk 5
   exact rp (.int .i64 ↑(j + k)) (by simp [execOp, Act.eval, f100, f101, go_sem, HW1.out]) hl hs hS
  apply sc
  ·intro a w' vs σ hS hl hs hk
   have f99 : a.tmps[99]?.getD undef = .slice (some ⟨g, 0, none⟩) l.1.length c := svf hk 3
   have f102 : a.tmps[102]?.getD undef = .int .i64 ↑(j + k) := svf hk 6
   exact rs_run (wanted_none rfl) (exec_slice rfl (by simp [Act.eval, f99, f102]) (by simp [Act.eval, f99, f102]; try rfl) (by simp [Act.eval, f99, f102]; try rfl) (run_from w' (some ⟨g, 0, none⟩) l.1.length c (j + k) (by omega) (by omega) (fun h => by cases h) (by omega))) (sp_same (by kernel_rfl) hl hs hS (show (.slice (tailA (some ⟨g, 0, none⟩) c (j + k)) (l.1.length - (j + k)) (c - (j + k)) : Value) = _ from rfl))
  apply sc
  ·intro a w' vs σ hS hl hs hk
   have e98 : a.tmps.getD 98 undef = .slice (tailA (some ⟨g, 0, none⟩) c j) (l.1.length - j) (c - j) := svv hk 2
   have e103 : a.tmps.getD 103 undef = .slice (tailA (some ⟨g, 0, none⟩) c (j + k)) (l.1.length - (j + k)) (c - (j + k)) := svv hk 7
   have h0 : σ[0]? = some (.cells (.slice (some ⟨g, 0, none⟩) l.1.length c) (brk (j + k) (brk j l.1))) := hs 0 (by decide)
   obtain ⟨W, hr, hW⟩ := run_copyO hS (sg h0) (j) (j + k) (cols - (j + k)) (tailA (some ⟨g, 0, none⟩) c j) (tailA (some ⟨g, 0, none⟩) c (j + k)) (l.1.length - j) (c - j) (l.1.length - (j + k)) (c - (j + k)) (by show min (l.1.length - (j + k)) (l.1.length - j) = _; omega) (by rw [brk_length, brk_length]; omega) (by rw [brk_length, brk_length]; omega) (fun hp => ⟨tailA_at (by omega), tailA_at (by omega)⟩) 3
   exact rs_run (wanted_none rfl) (exec_copy rfl (by simp only [Act.eval]; exact e98) (by simp only [Act.eval]; exact e103) hr) (sp_set 0 _ (by kernel_rfl) (by simp) (by decide) hl hs (by rfl) hW trivial)
  exact SSteps.nil
 ·intro vs w' hS hv
  have q0 : vs 0 = _ := hv 0 (by decide)
  have q1 : vs 1 = _ := hv 1 (by decide)
  have q2 : vs 2 = _ := hv 2 (by decide)
  have q3 : vs 3 = _ := hv 3 (by decide)
  have q4 : vs 4 = _ := hv 4 (by decide)
  have q5 : vs 5 = _ := hv 5 (by decide)
  have q6 : vs 6 = _ := hv 6 (by decide)
  have q7 : vs 7 = _ := hv 7 (by decide)
  have S2 := Lib.hid hS
  simp only [putL, Act.put, Nat.zero_add, Nat.reduceAdd, List.setIfInBounds_toArray, List.set_cons_succ, List.set_cons_zero, q0, q1, q2, q3, q4, q5, q6, q7]
  clear hS hv q0 q1 q2 q3 q4 q5 q6 q7
  clear S5
  have S6 := S2
  clear S2
  have HCL := Lib.hid (show ((brk (j + k) (brk j l.1)).take j ++ (((brk (j + k) (brk j l.1)).drop (j + k)).take (cols - (j + k)) ++ (brk (j + k) (brk j l.1)).drop (j + (cols - (j + k))))).length = cols by simp only [List.length_append, List.length_take, List.length_drop, brk_length]; omega)
  go_upto_region 22 with (fail)
  refine wp_region_stage (w0 := w0) (os := os) (by kernel_rfl) (by kernel_rfl) (by kernel_rfl) [(0, 9, [], fun vs => .cells (.slice (some ⟨g, 0, none⟩) l.1.length c) (wipeC (cols - k) (l.1.length - (cols - k)) q ((brk (j + k) (brk j l.1)).take j ++ (((brk (j + k) (brk j l.1)).drop (j + k)).take (cols - (j + k)) ++ (brk (j + k) (brk j l.1)).drop (j + (cols - (j + k)))))))] [[], [], [], [], [2], [], [], [], [3], [0]] [.cells (.slice (some ⟨g, 0, none⟩) l.1.length c) ((brk (j + k) (brk j l.1)).take j ++ (((brk (j + k) (brk j l.1)).drop (j + k)).take (cols - (j + k)) ++ (brk (j + k) (brk j l.1)).drop (j + (cols - (j + k))))), .linesx (.slice (some ⟨gr, 0, none⟩) L.length cr) L i (.slice (some ⟨g, 0, none⟩) l.1.length c), .box p 58 #[.int .i64 ↑cols, .slice (some ⟨gr, 0, none⟩) L.length cr], .box b9 54 (pv q)] (fun i u => match i with | 0 => u = .slice (some ⟨g, 0, none⟩) l.1.length c | 1 => u = .pointer (some ⟨p, 0, none⟩) | 2 => u = .pointer (some ⟨p, 0, none⟩) | 3 => u = .pointer (some ⟨p, 0, none⟩) | 4 => u = .int .i64 ↑cols | 5 => u = .int .i64 ↑k | 6 => u = .int .i64 ↑(cols - k) | 7 => u = .slice (tailA (some ⟨g, 0, none⟩) c (cols - k)) (l.1.length - (cols - k)) (c - (cols - k)) | 8 => u = .agg (pv q) | 9 => u = .tuple #[] | _ => True) (fun vs => [.cells (.slice (some ⟨g, 0, none⟩) l.1.length c) (wipeC (cols - k) (l.1.length - (cols - k)) q ((brk (j + k) (brk j l.1)).take j ++ (((brk (j + k) (brk j l.1)).drop (j + k)).take (cols - (j + k)) ++ (brk (j + k) (brk j l.1)).drop (j + (cols - (j + k)))))), .linesx (.slice (some ⟨gr, 0, none⟩) L.length cr) L i (.slice (some ⟨g, 0, none⟩) l.1.length c), .box p 58 #[.int .i64 ↑cols, .slice (some ⟨gr, 0, none⟩) L.length cr], .box b9 54 (pv q)]) (by kernel_rfl) (fun vs => by rfl) S6.out ?_ ?_
  ·apply sc
   ·intro a w' vs σ hS hl hs hk
    have f12 : a.tmps[12]?.getD undef = .slice (some ⟨g, 0, none⟩) l.1.length c := sof hk
    exact rp (.slice (some ⟨g, 0, none⟩) l.1.length c) (by simp [execOp, Act.eval, f12, go_sem]) hl hs hS
   apply sc
   ·intro a w' vs σ hS hl hs hk
    have f0 : a.tmps[0]?.getD undef = .pointer (some ⟨p, 0, none⟩) := sof hk
    exact rp (pt p 0) (by simp [execOp, Act.eval, f0, go_sem]) hl hs hS
   apply sc
   ·intro a w' vs σ hS hl hs hk
    have f106 : a.tmps[106]?.getD undef = .pointer (some ⟨p, 0, none⟩) := svf hk 1
    exact rp (pt p 0) (by simp [execOp, Act.eval, f106, go_sem]) hl hs hS
   apply sc
   ·intro a w' vs σ hS hl hs hk
    have f107 : a.tmps[107]?.getD undef = .pointer (some ⟨p, 0, none⟩) := svf hk 2
    exact rp (pt p 0) (by simp [execOp, Act.eval, f107, go_sem]) hl hs hS
   apply sc
   ·intro a w' vs σ hS hl hs hk
    have f108 : a.tmps[108]?.getD undef = .pointer (some ⟨p, 0, none⟩) := svf hk 3
    have hx := (hS.box (sg (hs 2 (by decide)))).cell
    exact rp (.int .i64 ↑cols) (by simp [execOp, Act.eval, f108, go_sem, hx]) hl hs hS
   apply sc
   ·intro a w' vs σ hS hl hs hk
    have f15 : a.tmps[15]?.getD undef = .int .i64 ↑k := sof hk
    exact rp (.int .i64 ↑k) (by simp [execOp, Act.eval, f15, go_sem]) hl hs hS
   apply sc
   ·intro a w' vs σ hS hl hs hk
    have f109 : a.tmps[109]?.getD undef = .int .i64 ↑cols := svf hk 4
    have f110 : a.tmps[110]?.getD undef = .int .i64 ↑k := svf hk 5
    exact rp (.int .i64 ↑(cols - k)) (by simp [execOp, Act.eval, f109, f110, go_sem, HW2.out]) hl hs hS
   apply sc
   ·intro a w' vs σ hS hl hs hk
    have f105 : a.tmps[105]?.getD undef = .slice (some ⟨g, 0, none⟩) l.1.length c := svf hk 0
    have f111 : a.tmps[111]?.getD undef = .int .i64 ↑(cols - k) := svf hk 6
    exact rs_run (wanted_none rfl) (exec_slice rfl (by simp [Act.eval, f105, f111]) (by simp [Act.eval, f105, f111]; try rfl) (by simp [Act.eval, f105, f111]; try rfl) (run_from w' (some ⟨g, 0, none⟩) l.1.length c (cols - k) (by omega) (by omega) (fun h => by cases h) (by omega))) (sp_same (by kernel_rfl) hl hs hS (show (.slice (tailA (some ⟨g, 0, none⟩) c (cols - k)) (l.1.length - (cols - k)) (c - (cols - k)) : Value) = _ from rfl))
   apply sc
   ·intro a w' vs σ hS hl hs hk
    have f9 : a.tmps[9]?.getD undef = .pointer (some ⟨b9, 0, none⟩) := sof hk
    have hx := (hS.box (sg (hs 3 (by decide)))).penAt
    exact rp (.agg (pv q)) (by simp [execOp, Act.eval, f9, go_sem, hx]) hl hs hS
   apply sc
   ·intro a w' vs σ hS hl hs hk
    have e112 : a.tmps.getD 112 undef = .slice (tailA (some ⟨g, 0, none⟩) c (cols - k)) (l.1.length - (cols - k)) (c - (cols - k)) := svv hk 7
    have e113 : a.tmps.getD 113 undef = .agg (pv q) := svv hk 8
    have h0 : σ[0]? = some (.cells (.slice (some ⟨g, 0, none⟩) l.1.length c) ((brk (j + k) (brk j l.1)).take j ++ (((brk (j + k) (brk j l.1)).drop (j + k)).take (cols - (j + k)) ++ (brk (j + k) (brk j l.1)).drop (j + (cols - (j + k)))))) := hs 0 (by decide)
    rw [tailA_at (by omega)] at e112
    exact ro_call (f := 89) (wanted_none rfl) rfl (by simp only [List.map_toArray, List.map_cons, List.map_nil, Act.eval, e112, e113] <;> rfl) (fun _ _ => by kernel_rfl) ((front_call hS (sg h0) (fun os1 h => wipe_front g l.1.length c (cols - k) (l.1.length - (cols - k)) (c - (cols - k)) ((brk (j + k) (brk j l.1)).take j ++ (((brk (j + k) (brk j l.1)).drop (j + k)).take (cols - (j + k)) ++ (brk (j + k) (brk j l.1)).drop (j + (cols - (j + k))))) q w0 w' os1 h (by have := HCL.out; omega) (by omega) (by have := HCL.out; omega))).mono fun e w2 ⟨h1, h2⟩ => ⟨_, h1, sp_set 0 _ (by kernel_rfl) (by simp) (by decide) hl hs (by rfl) h2 rfl, trivial⟩)
   exact SSteps.nil
  ·intro vs w' hS hv
   have q0 : vs 0 = _ := hv 0 (by decide)
   have q1 : vs 1 = _ := hv 1 (by decide)
   have q2 : vs 2 = _ := hv 2 (by decide)
   have q3 : vs 3 = _ := hv 3 (by decide)
   have q4 : vs 4 = _ := hv 4 (by decide)
   have q5 : vs 5 = _ := hv 5 (by decide)
   have q6 : vs 6 = _ := hv 6 (by decide)
   have q7 : vs 7 = _ := hv 7 (by decide)
   have q8 : vs 8 = _ := hv 8 (by decide)
   have q9 : vs 9 = _ := hv 9 (by decide)
   have S2 := Lib.hid hS
   simp only [putL, Act.put, Nat.zero_add, Nat.reduceAdd, List.setIfInBounds_toArray, List.set_cons_succ, List.set_cons_zero, q0, q1, q2, q3, q4, q5, q6, q7, q8, q9]
   clear hS hv q0 q1 q2 q3 q4 q5 q6 q7 q8 q9
   have HF := (show Objs w0 w' (_ :: _ :: _ :: _ :: os) from S2.out).closeAt HL.out
   rw [HP.out] at HF
   go_wp2_with fail
   go_ret
   exact ⟨rfl, HF.drop2⟩
end
end Go.Proofs.YtppijfjigcoifaaDoor

namespace Go.Proofs.YtppijfjigcoifaaDoor
open Go.RowKit

section
variable {w0 w : World} {os : List Ob} {L : List Ln} {v b : Value}
end
end Go.Proofs.YtppijfjigcoifaaDoor

namespace Go.Proofs.YtppijfjigcoifaaDoor
open Go.RowKit

@[go_sem] theorem run_fieldL (A : Option Addr) (n c : Nat) (b : Bool) (w : World) : (Instr.field 39 (.agg #[.slice A n c, .bool b]) 0).run Tryd.prog w = .ok (.slice A n c) w := by kernel_rfl
section
variable {w0 w : World} {os : List Ob} {p cols : Nat} {L : List Ln}
end
end Go.Proofs.YtppijfjigcoifaaDoor

namespace Go.Proofs.YtppijfjigcoifaaDoor
open Go.RowKit

section
variable {w0 w : World} {os : List Ob}
theorem Objs.linesRd' (h : Objs w0 w os) {A : Option Addr} {n c k : Nat} {L : List Ln} (hk : os[k]? = some (.lines (.slice A n c) L)) : n = L.length ∧ c ≤ maxLen ∧ RdL w A c L := by
 obtain ⟨A', c', e, h1, h2⟩ := h.linesRd hk
 simp only [Value.slice.injEq] at e
 obtain ⟨rfl, e2, rfl⟩ := e
 exact ⟨e2, h1, h2⟩
theorem Objs.lowerNew {x o o' : Ob} {k : Nat} (hk : os[k]? = some o) (h : Objs w0 w (x :: o' :: os.set k .none)) : Objs w0 w (x :: os.set k o') := by
 have h1 := h.move (i := 1) (j := k + 2) (o := o') rfl (by simpa using set_none_get hk) (by omega)
 have h2 := h1.del 1
 simpa [List.set_set] using h2
theorem front_new {P : Program} {f : FuncId} {args : Array Value} {k : Nat} {o o' : Ob} {r : Value → Value} {nw : Value → Ob} (hS : Objs w0 w os) (hk : os[k]? = some o)
  (hc : ∀ os1, Objs w0 w (o :: os1) → Calls P f args w fun e w' => ∃ v, e = .returned (r v) ∧ Objs w0 w' (nw v :: o' :: os1)) : Calls P f args w fun e w' => ∃ v, e = .returned (r v) ∧ Objs w0 w' (nw v :: os.set k o') :=
 (hc _ (hS.lift hk)).mono fun e w' ⟨v, h1, h2⟩ => ⟨v, h1, h2.lowerNew hk⟩
end
section
variable {ops : Array Oper} {rest : List Oper} {o : Oper} {a : Act} {w : World} {Q : Exit → Act → World → Prop}
theorem wpList_bsl (hw : Region.wanted o (yielded ops a.tmps) = true) (x0 : Operand) (ho : o.op = .buildSlice 30 1 #[(0, x0)]) {v : Value} {s : Bool} (h0 : a.eval x0 = .agg #[v, .bool s])
  (h : wpList Tryd.prog ops Q rest (a.put o.dst (.slice (some ⟨w.heap.size, 0, none⟩) 1 1)) (w.alloc (.cells #[v, .bool s] 39))) : wpList Tryd.prog ops Q (o :: rest) a w :=
 wpList_run hw (exec_bsl ho (by simp [h0]) (run_bsl v s w)) h
end
section
variable {w0 w : World} {os : List Ob} {p cols : Nat} {L : List Ln}
set_option maxRecDepth 100000 in
set_option maxHeartbeats 2000000 in
theorem Lines_front (hS : Objs w0 w (.grid p 58 cols L :: os)) (hc : 0 < cols) (hn : ∀ l ∈ L, l.1.length ≤ 1000000) (hL : L.length ≤ 1000000) :
  Calls Tryd.prog 20 #[.pointer (some ⟨p, 0, none⟩)] w fun e w' => ∃ v, e = .returned v ∧ Objs w0 w' (.lines v L :: .grid p 58 cols L :: os) := by
 have S := Lib.hid hS
 have HN := Lib.hid hn
 clear hS hn
 go_enter Tryd.func20, Tryd.ntmps20
 go_wp2_with fail
 refine (none_no S.out (k := 0) rfl hc).mono ?_
 rintro e w1 ⟨rfl, hS⟩
 obtain ⟨vG, hS1⟩ := hS.openGrid (k := 0) rfl
 obtain ⟨A, c, rfl, hcm, -⟩ := hS1.linesRd (k := 0) rfl
 obtain ⟨hx0, hf0, hz0⟩ := (hS1.box (k := 1) rfl).facts
 have S1 := Lib.hid hS1
 clear hS hS1 S hcm
 go_wp2_with fail
 go_loopw [3, 5, 13] (fun v _ x wr => ∃ n : Nat, n ≤ L.length ∧ x = .int .i64 n ∧ Objs w0 wr (.lines v (L.take n) :: .lines (.slice A L.length c) L :: .box p 58 #[.int .i64 cols, .slice A L.length c] :: os)) (fun _ _ x _ => L.length - (intOf x).toNat)
 case atStart => exact ⟨0, Nat.zero_le _, rfl, S1.out.nilLines⟩
 case round =>
  obtain ⟨n, hnl, rfl, hS⟩ := hrel
  by_cases hlt : n < L.length
  ·have hl : L[n]? = some L[n] := by simp [hlt]
   obtain ⟨b, off, A', c', rfl, hz1, hc1, hc2, hrd⟩ := (hS.linesRd' (k := 1) rfl).2.2.at_ hl
   have HRD := Lib.hid hrd
   have S2 := Lib.hid hS
   have HL := Lib.hid hl
   clear hrd hS hl
   go_wp2_with fail
   refine (lineCopy_any A' c' L[n].1 L[n].2 _ (HRD.out.alloc _) (HN.out _ (List.getElem_mem hlt))).mono ?_
   rintro e w2 ⟨v2, rfl, ho, hb⟩
   have hS3 := (S2.out.alloc1.newCells hb ho).alloc1 (c1 := #[v2, .bool L[n].2]) (t1 := 39)
   obtain ⟨v5, w5, hr5, hS5, A5, c5, hv5⟩ := run_appL hS3 (k := 3) (j := 1) (ad := ⟨w2.heap.size, 0, none⟩) (c := 1) (s := L[n].2) rfl rfl (by decide) (by rw [(hS3.box (k := 0) rfl).cell]; rfl) (by rw [add_at, (hS3.box (k := 0) rfl).cell]; rfl) (by simp; omega) 30
   have htk : L.take n ++ [(L[n].1, L[n].2)] = L.take (n + 1) := by rw [List.take_succ_eq_append_getElem hlt]
   rw [htk] at hS5
   have S5 := Lib.hid (((hS5.del 0).del 0).del 0)
   have HV := Lib.hid hv5
   clear hS3 hS5 htk hv5 ho hb hz1 hc1 hc2
   go_wp2_with (first | (refine wpList_bsl (wanted_none rfl) _ rfl (v := v2) (s := L[n].2) rfl ?_) | (at_builtin; refine wpList_app _ _ (wanted_none rfl) rfl rfl rfl hr5 ?_))
   go_roundw
   case rel => exact ⟨n + 1, by omega, by go_num, S5.out⟩
   case measure => simp [intOf]; omega
  ·have hnn : L.take n = L := List.take_of_length_le (by omega)
   rw [hnn] at hS
   have S6 := Lib.hid (((hS.lift (k := 1) rfl).closeGrid (k := 2) rfl).del 1)
   clear hS hnn
   go_wp2_with fail
   go_ret
   exact ⟨_, rfl, S6.out⟩
theorem Lines_any {k : Nat} (hS : Objs w0 w os) (hk : os[k]? = some (.grid p 58 cols L)) (hc : 0 < cols) (hn : ∀ l ∈ L, l.1.length ≤ 1000000) (hL : L.length ≤ 1000000) :
  Calls Tryd.prog 20 #[.pointer (some ⟨p, 0, none⟩)] w fun e w' => ∃ v, e = .returned v ∧ Objs w0 w' (.lines v L :: os) :=
 (front_new (r := id) (nw := fun v => .lines v L) (o' := .grid p 58 cols L) hS hk (fun os1 h => Lines_front h hc hn hL)).mono fun e w' ⟨v, h1, h2⟩ => ⟨v, h1, by rw [set_self hk] at h2; exact h2⟩
end
end Go.Proofs.YtppijfjigcoifaaDoor

namespace Go.Proofs.YtppijfjigcoifaaDoor
open Go.RowKit

def lineV : Value → Value
 | .agg a => a.getD 0 undef
 | v => v
def blkOf : Value → Nat
 | .slice (some ad) _ _ => ad.block
 | .pointer (some ad) => ad.block
 | _ => 0
set_option maxRecDepth 100000 in
set_option maxHeartbeats 4000000 in
theorem gridNew_yes (rows cols : Nat) (h1 : 1 ≤ rows) (h2 : rows ≤ 1000) (h3 : 1 ≤ cols) (h4 : cols ≤ 1000) (w0 w : World) (os : List Ob) (hS : Objs w0 w os) :
  Calls Tryd.prog 14 #[.int .i64 rows, .int .i64 cols] w fun e w' => ∃ p, e = .returned (.tuple #[.pointer (some ⟨p, 0, none⟩), .int .i64 0]) ∧ Objs w0 w' (.grid p 58 cols (List.replicate rows ((List.replicate cols (blank pen0)), false)) :: os) := by
 have S0 := Lib.hid hS
 clear hS
 go_enter Tryd.func14, Tryd.ntmps14
 go_wp2_with fail
 refine at_objsC S0.out.alloc1 (fun W S1 => ?_)
 generalize w.heap.size = p at S1 ⊢
 have S1 := Lib.hid S1
 clear S0
 go_loopw [25] (fun x wr => ∃ (k : Nat) (v : Value), k ≤ rows ∧ x = .int .i64 k ∧ Objs w0 wr (.lines v (List.replicate k ((List.replicate cols (blank pen0)), false)) :: .box p 58 #[.int .i64 ↑cols, v] :: os)) (fun x _ => rows - (intOf x).toNat)
 case atStart => exact ⟨0, _, Nat.zero_le _, rfl, S1.out.nilLines⟩
 case round =>
  obtain ⟨k, v, hk, rfl, hS⟩ := hrel
  have S := Lib.hid hS
  clear hS
  by_cases hlt : k < rows
  ·go_upto_region 6 with (fail)
   refine wp_region_stage (w0 := w0) (os := os) (by kernel_rfl) (by kernel_rfl) (by kernel_rfl) [(0, 7, [7], fun vs => .cells (lineV (vs 7)) (List.replicate cols (blank pen0))), (1, 8, [7, 8], fun vs => .box (blkOf (vs 8)) 39 #[lineV (vs 7), .bool false]), (2, 9, [9], fun vs => .lines (vs 9) (List.replicate (k + 1) ((List.replicate cols (blank pen0)), false))), (0, 9, [], fun vs => .none), (3, 12, [9], fun vs => .box p 58 #[.int .i64 ↑cols, vs 9])] [[], [], [], [], [3], [], [], [0], [1], [0, 1, 2], [], [], [3]] [.none, .none, .lines v (List.replicate k ((List.replicate cols (blank pen0)), false)), .box p 58 #[.int .i64 ↑cols, v]] (fun i u => match i with | 0 => u = .pointer (some ⟨p, 0, none⟩) | 1 => u = .pointer (some ⟨p, 0, none⟩) | 2 => u = .pointer (some ⟨p, 0, none⟩) | 3 => u = .pointer (some ⟨p, 1, none⟩) | 4 => u = (v : Value) | 5 => u = .int .i64 ↑cols | 6 => u = .agg (pv pen0) | 7 => ∃ x, u = .agg #[x, .bool false] | 8 => ∃ g, u = .slice (some ⟨g, 0, none⟩) 1 1 | 9 => ∃ A n c, u = .slice A n c | 10 => u = .pointer (some ⟨p, 0, none⟩) | 11 => u = .pointer (some ⟨p, 1, none⟩) | 12 => True | _ => True) (fun vs => [.none, .box (blkOf (vs 8)) 39 #[lineV (vs 7), .bool false], .lines (vs 9) (List.replicate (k + 1) ((List.replicate cols (blank pen0)), false)), .box p 58 #[.int .i64 ↑cols, vs 9]]) (by kernel_rfl) (fun vs => by rfl) S.out.pad.pad ?_ ?_
   ·apply sc
    ·intro a w' vs σ hS hl hs hk
     have f6 : a.tmps[6]?.getD undef = .pointer (some ⟨p, 0, none⟩) := sof hk
     exact rp (pt p 0) (by simp [execOp, Act.eval, f6, go_sem]) hl hs hS
    apply sc
    ·intro a w' vs σ hS hl hs hk
     have f6 : a.tmps[6]?.getD undef = .pointer (some ⟨p, 0, none⟩) := sof hk
     exact rp (pt p 0) (by simp [execOp, Act.eval, f6, go_sem]) hl hs hS
    apply sc
    ·intro a w' vs σ hS hl hs hk
     have f28 : a.tmps[28]?.getD undef = .pointer (some ⟨p, 0, none⟩) := svf hk 1
     exact rp (pt p 0) (by simp [execOp, Act.eval, f28, go_sem]) hl hs hS
    apply sc
    ·intro a w' vs σ hS hl hs hk
     have f29 : a.tmps[29]?.getD undef = .pointer (some ⟨p, 0, none⟩) := svf hk 2
     exact rp (pt p 1) (by simp [execOp, Act.eval, f29, go_sem]) hl hs hS
    apply sc
    ·intro a w' vs σ hS hl hs hk
     have f30 : a.tmps[30]?.getD undef = .pointer (some ⟨p, 1, none⟩) := svf hk 3
     have hx := (hS.box (sg (hs 3 (by decide)))).cell
     exact rp v (by simp [execOp, Act.eval, f30, go_sem, hx]) hl hs hS
    apply sc
    ·intro a w' vs σ hS hl hs hk
     have f1 : a.tmps[1]?.getD undef = .int .i64 ↑cols := sof hk
     exact rp (.int .i64 ↑cols) (by simp [execOp, Act.eval, f1, go_sem]) hl hs hS
    apply sc
    ·intro a w' vs σ hS hl hs hk
     exact rp (.agg (pv pen0)) (by simp [execOp, Act.eval, go_sem, pen0]) hl hs hS
    apply sc
    ·intro a w' vs σ hS hl hs hk
     have e32 : a.tmps.getD 32 undef = .int .i64 ↑cols := svv hk 5
     have e33 : a.tmps.getD 33 undef = .agg (pv pen0) := svv hk 6
     have h0 : σ[0]? = some .none := hs 0 (by decide)
     exact ro_call (f := 54) (wanted_none rfl) rfl (by simp only [List.map_toArray, List.map_cons, List.map_nil, Act.eval, e32, e33] <;> rfl) (fun _ _ => by kernel_rfl) ((gridblanks_any cols (by omega) pen0 w0 w' _ hS).mono fun e w2 ⟨x, h1, h2⟩ => ⟨_, h1, sp_set 0 (.cells x (List.replicate cols (blank pen0))) (by kernel_rfl) (by simp) (by decide) hl hs (by rfl) (h2.place (sg h0)) ⟨x, rfl⟩, trivial⟩)
    apply sc
    ·intro a w' vs σ hS hl hs hk
     have e34 : a.tmps.getD 34 undef = vs 7 := sk_val hk 7 (by kernel_rfl) rfl rfl
     have p34 : (fun u : Value => ∃ x, u = .agg #[x, .bool false]) (vs 7) := (hk.1 7 (by kernel_rfl)).1
     obtain ⟨x, hx⟩ := p34
     have e9 := e34.trans hx
     have f9 := gd e9
     have h1 : σ[1]? = some .none := hs 1 (by decide)
     exact rs_run (wanted_none rfl) (exec_bsl rfl (by simp [Act.eval, e9, f9]) (run_bsl x false w')) (sp_set 1 (.box w'.heap.size 39 #[x, .bool false]) (by kernel_rfl) (by simp) (by decide) hl hs (by show Ob.box (blkOf (.slice (some ⟨w'.heap.size, 0, none⟩) 1 1)) 39 #[lineV (vs 7), .bool false] = _; rw [hx]; rfl) (hS.alloc1.place (sg h1)) ⟨_, rfl⟩)
    apply sc
    ·intro a w' vs σ hS hl hs hk
     have e31 : a.tmps.getD 31 undef = (v : Value) := svv hk 4
     have e35 : a.tmps.getD 35 undef = vs 8 := sk_val hk 8 (by kernel_rfl) rfl rfl
     have p35 : (fun u : Value => ∃ g, u = .slice (some ⟨g, 0, none⟩) 1 1) (vs 8) := (hk.1 8 (by kernel_rfl)).1
     have h2 : σ[2]? = some (.lines v (List.replicate k ((List.replicate cols (blank pen0)), false))) := hs 2 (by decide)
     have h0 : σ[0]? = some (.cells (lineV (vs 7)) (List.replicate cols (blank pen0))) := hs 0 (by decide)
     have h1 : σ[1]? = some (.box (blkOf (vs 8)) 39 #[lineV (vs 7), .bool false]) := hs 1 (by decide)
     obtain ⟨g8, hg8⟩ := p35
     rw [hg8, show blkOf (.slice (some ⟨g8, 0, none⟩) 1 1) = g8 from rfl] at h1
     obtain ⟨v9, w9, hr, hS2, A9, c9, hv9⟩ := run_appL hS (k := 2) (j := 0) (ad := ⟨g8, 0, none⟩) (c := 1) (s := false) (sg h2) (sg h0) (by decide) (by rw [(hS.box (sg h1)).cell]; rfl) (by rw [add_at, (hS.box (sg h1)).cell]; rfl) (by simp; omega) 30
     rw [← List.replicate_succ'] at hS2
     exact rs_run (wanted_none rfl) (exec_app rfl (by simp only [Act.eval]; exact e31) (by simp only [Act.eval]; exact e35.trans hg8) hr) (sp_set2 2 0 (.lines v9 (List.replicate (k + 1) ((List.replicate cols (blank pen0)), false))) .none (by decide) (by kernel_rfl) (by simp) (by simp) (by decide) (by decide) hl hs (by rfl) (by rfl) hS2 ⟨A9, _, c9, hv9⟩)
    apply sc
    ·intro a w' vs σ hS hl hs hk
     have f27 : a.tmps[27]?.getD undef = .pointer (some ⟨p, 0, none⟩) := svf hk 0
     exact rp (pt p 0) (by simp [execOp, Act.eval, f27, go_sem]) hl hs hS
    apply sc
    ·intro a w' vs σ hS hl hs hk
     have f37 : a.tmps[37]?.getD undef = .pointer (some ⟨p, 0, none⟩) := svf hk 10
     exact rp (pt p 1) (by simp [execOp, Act.eval, f37, go_sem]) hl hs hS
    apply sc
    ·intro a w' vs σ hS hl hs hk
     have f38 : a.tmps[38]?.getD undef = .pointer (some ⟨p, 1, none⟩) := svf hk 11
     have e36 : a.tmps.getD 36 undef = vs 9 := sk_val hk 9 (by kernel_rfl) rfl rfl
     have p36 : (fun u : Value => ∃ A n c, u = .slice A n c) (vs 9) := (hk.1 9 (by kernel_rfl)).1
     have f36 := gd e36
     have h3 : σ[3]? = some (.box p 58 #[.int .i64 ↑cols, v]) := hs 3 (by decide)
     obtain ⟨hx, hf, hz⟩ := (hS.box (sg h3)).facts
     obtain ⟨A9, n9, c9, q9⟩ := p36
     exact rstep_store (w2 := w'.setCell ⟨p, 1, none⟩ (.slice A9 n9 c9)) (wanted_none rfl) rfl (by simp [execOp, Act.eval, f38, e36, f36, q9, hx, hf, hz, go_sem]) (sp_set 3 (.box p 58 #[.int .i64 ↑cols, vs 9]) (by kernel_rfl) (by simp) (by decide) hl hs (by rfl) (by rw [q9]; exact hS.setBox 3 (sg h3)) trivial) trivial
    exact SSteps.nil
   ·intro vs w' hS hv
    have q0 : vs 0 = _ := hv 0 (by decide)
    have q1 : vs 1 = _ := hv 1 (by decide)
    have q2 : vs 2 = _ := hv 2 (by decide)
    have q3 : vs 3 = _ := hv 3 (by decide)
    have q4 : vs 4 = _ := hv 4 (by decide)
    have q5 : vs 5 = _ := hv 5 (by decide)
    have q6 : vs 6 = _ := hv 6 (by decide)
    have q10 : vs 10 = _ := hv 10 (by decide)
    have q11 : vs 11 = _ := hv 11 (by decide)
    have S2 := Lib.hid hS
    simp only [putL, Act.put, Nat.zero_add, Nat.reduceAdd, List.setIfInBounds_toArray, List.set_cons_succ, List.set_cons_zero, q0, q1, q2, q3, q4, q5, q6, q10, q11]
    clear hS hv q0 q1 q2 q3 q4 q5 q6 q10 q11
    go_wp2_with fail
    go_roundw
    case rel => exact ⟨k + 1, vs 9, by omega, by go_num, (S2.out.del 0).del 0⟩
    case measure => simp [intOf]; omega
  ·obtain rfl : k = rows := by omega
   have SG := Lib.hid (S.out.closeGrid (k := 0) rfl)
   clear S S1
   go_wp2_with fail
   go_ret2
   exact ⟨p, rfl, SG.out⟩
set_option maxRecDepth 100000 in
set_option maxHeartbeats 4000000 in
theorem r14New_any (rows cols : Nat) (h2 : rows ≤ 1000) (h4 : cols ≤ 1000) (w0 w : World) (os : List Ob) (hS : Objs w0 w os) :
  Calls Tryd.prog 21 #[.int .i64 rows, .int .i64 cols] w fun e w' => ∃ p, e = .returned (.pointer (some ⟨p, 0, none⟩)) ∧ Objs w0 w' (.grid p 33 cols (List.replicate rows ((List.replicate cols (blank pen0)), false)) :: os) := by
 have S0 := Lib.hid hS
 clear hS
 go_enter Tryd.func21, Tryd.ntmps21
 go_wp2_with fail
 refine at_objsC S0.out.alloc1 (fun W S1 => ?_)
 generalize w.heap.size = p at S1 ⊢
 have S1 := Lib.hid S1
 clear S0
 go_loopw [6] (fun x wr => ∃ (k : Nat) (v : Value), k ≤ rows ∧ x = .int .i64 k ∧ Objs w0 wr (.lines v (List.replicate k ((List.replicate cols (blank pen0)), false)) :: .box p 33 #[.int .i64 ↑cols, v] :: os)) (fun x _ => rows - (intOf x).toNat)
 case atStart => exact ⟨0, _, Nat.zero_le _, rfl, S1.out.nilLines⟩
 case round =>
  obtain ⟨k, v, hk, rfl, hS⟩ := hrel
  have S := Lib.hid hS
  clear hS
  by_cases hlt : k < rows
  ·go_upto_region 5 with (fail)
   refine wp_region_stage (w0 := w0) (os := os) (by kernel_rfl) (by kernel_rfl) (by kernel_rfl) [(0, 7, [7], fun vs => .cells (lineV (vs 7)) (List.replicate cols (blank pen0))), (1, 8, [7, 8], fun vs => .box (blkOf (vs 8)) 39 #[lineV (vs 7), .bool false]), (2, 9, [9], fun vs => .lines (vs 9) (List.replicate (k + 1) ((List.replicate cols (blank pen0)), false))), (0, 9, [], fun vs => .none), (3, 12, [9], fun vs => .box p 33 #[.int .i64 ↑cols, vs 9])] [[], [], [], [], [3], [], [], [0], [1], [0, 1, 2], [], [], [3]] [.none, .none, .lines v (List.replicate k ((List.replicate cols (blank pen0)), false)), .box p 33 #[.int .i64 ↑cols, v]] (fun i u => match i with | 0 => u = .pointer (some ⟨p, 0, none⟩) | 1 => u = .pointer (some ⟨p, 0, none⟩) | 2 => u = .pointer (some ⟨p, 0, none⟩) | 3 => u = .pointer (some ⟨p, 1, none⟩) | 4 => u = (v : Value) | 5 => u = .int .i64 ↑cols | 6 => u = .agg (pv pen0) | 7 => ∃ x, u = .agg #[x, .bool false] | 8 => ∃ g, u = .slice (some ⟨g, 0, none⟩) 1 1 | 9 => ∃ A n c, u = .slice A n c | 10 => u = .pointer (some ⟨p, 0, none⟩) | 11 => u = .pointer (some ⟨p, 1, none⟩) | 12 => True | _ => True) (fun vs => [.none, .box (blkOf (vs 8)) 39 #[lineV (vs 7), .bool false], .lines (vs 9) (List.replicate (k + 1) ((List.replicate cols (blank pen0)), false)), .box p 33 #[.int .i64 ↑cols, vs 9]]) (by kernel_rfl) (fun vs => by rfl) S.out.pad.pad ?_ ?_
   ·apply sc
    ·intro a w' vs σ hS hl hs hk
     have f5 : a.tmps[5]?.getD undef = .pointer (some ⟨p, 0, none⟩) := sof hk
     exact rp (pt p 0) (by simp [execOp, Act.eval, f5, go_sem]) hl hs hS
    apply sc
    ·intro a w' vs σ hS hl hs hk
     have f5 : a.tmps[5]?.getD undef = .pointer (some ⟨p, 0, none⟩) := sof hk
     exact rp (pt p 0) (by simp [execOp, Act.eval, f5, go_sem]) hl hs hS
    apply sc
    ·intro a w' vs σ hS hl hs hk
     have f16 : a.tmps[16]?.getD undef = .pointer (some ⟨p, 0, none⟩) := svf hk 1
     exact rp (pt p 0) (by simp [execOp, Act.eval, f16, go_sem]) hl hs hS
    apply sc
    ·intro a w' vs σ hS hl hs hk
     have f17 : a.tmps[17]?.getD undef = .pointer (some ⟨p, 0, none⟩) := svf hk 2
     exact rp (pt p 1) (by simp [execOp, Act.eval, f17, go_sem]) hl hs hS
    apply sc
    ·intro a w' vs σ hS hl hs hk
     have f18 : a.tmps[18]?.getD undef = .pointer (some ⟨p, 1, none⟩) := svf hk 3
     have hx := (hS.box (sg (hs 3 (by decide)))).cell
     exact rp v (by simp [execOp, Act.eval, f18, go_sem, hx]) hl hs hS
    apply sc
    ·intro a w' vs σ hS hl hs hk
     have f1 : a.tmps[1]?.getD undef = .int .i64 ↑cols := sof hk
     exact rp (.int .i64 ↑cols) (by simp [execOp, Act.eval, f1, go_sem]) hl hs hS
    apply sc
    ·intro a w' vs σ hS hl hs hk
     exact rp (.agg (pv pen0)) (by simp [execOp, Act.eval, go_sem, pen0]) hl hs hS
    apply sc
    ·intro a w' vs σ hS hl hs hk
     have e20 : a.tmps.getD 20 undef = .int .i64 ↑cols := svv hk 5
     have e21 : a.tmps.getD 21 undef = .agg (pv pen0) := svv hk 6
     have h0 : σ[0]? = some .none := hs 0 (by decide)
     exact ro_call (f := 59) (wanted_none rfl) rfl (by simp only [List.map_toArray, List.map_cons, List.map_nil, Act.eval, e20, e21] <;> rfl) (fun _ _ => by kernel_rfl) ((r14Blanks_any cols (by omega) pen0 w0 w' _ hS).mono fun e w2 ⟨x, h1, h2⟩ => ⟨_, h1, sp_set 0 (.cells x (List.replicate cols (blank pen0))) (by kernel_rfl) (by simp) (by decide) hl hs (by rfl) (h2.place (sg h0)) ⟨x, rfl⟩, trivial⟩)
    apply sc
    ·intro a w' vs σ hS hl hs hk
     have e22 : a.tmps.getD 22 undef = vs 7 := sk_val hk 7 (by kernel_rfl) rfl rfl
     have p22 : (fun u : Value => ∃ x, u = .agg #[x, .bool false]) (vs 7) := (hk.1 7 (by kernel_rfl)).1
     obtain ⟨x, hx⟩ := p22
     have e9 := e22.trans hx
     have f9 := gd e9
     have h1 : σ[1]? = some .none := hs 1 (by decide)
     exact rs_run (wanted_none rfl) (exec_bsl rfl (by simp [Act.eval, e9, f9]) (run_bsl x false w')) (sp_set 1 (.box w'.heap.size 39 #[x, .bool false]) (by kernel_rfl) (by simp) (by decide) hl hs (by show Ob.box (blkOf (.slice (some ⟨w'.heap.size, 0, none⟩) 1 1)) 39 #[lineV (vs 7), .bool false] = _; rw [hx]; rfl) (hS.alloc1.place (sg h1)) ⟨_, rfl⟩)
    apply sc
    ·intro a w' vs σ hS hl hs hk
     have e19 : a.tmps.getD 19 undef = (v : Value) := svv hk 4
     have e23 : a.tmps.getD 23 undef = vs 8 := sk_val hk 8 (by kernel_rfl) rfl rfl
     have p23 : (fun u : Value => ∃ g, u = .slice (some ⟨g, 0, none⟩) 1 1) (vs 8) := (hk.1 8 (by kernel_rfl)).1
     have h2 : σ[2]? = some (.lines v (List.replicate k ((List.replicate cols (blank pen0)), false))) := hs 2 (by decide)
     have h0 : σ[0]? = some (.cells (lineV (vs 7)) (List.replicate cols (blank pen0))) := hs 0 (by decide)
     have h1 : σ[1]? = some (.box (blkOf (vs 8)) 39 #[lineV (vs 7), .bool false]) := hs 1 (by decide)
     obtain ⟨g8, hg8⟩ := p23
     rw [hg8, show blkOf (.slice (some ⟨g8, 0, none⟩) 1 1) = g8 from rfl] at h1
     obtain ⟨v9, w9, hr, hS2, A9, c9, hv9⟩ := run_appL hS (k := 2) (j := 0) (ad := ⟨g8, 0, none⟩) (c := 1) (s := false) (sg h2) (sg h0) (by decide) (by rw [(hS.box (sg h1)).cell]; rfl) (by rw [add_at, (hS.box (sg h1)).cell]; rfl) (by simp; omega) 30
     rw [← List.replicate_succ'] at hS2
     exact rs_run (wanted_none rfl) (exec_app rfl (by simp only [Act.eval]; exact e19) (by simp only [Act.eval]; exact e23.trans hg8) hr) (sp_set2 2 0 (.lines v9 (List.replicate (k + 1) ((List.replicate cols (blank pen0)), false))) .none (by decide) (by kernel_rfl) (by simp) (by simp) (by decide) (by decide) hl hs (by rfl) (by rfl) hS2 ⟨A9, _, c9, hv9⟩)
    apply sc
    ·intro a w' vs σ hS hl hs hk
     have f15 : a.tmps[15]?.getD undef = .pointer (some ⟨p, 0, none⟩) := svf hk 0
     exact rp (pt p 0) (by simp [execOp, Act.eval, f15, go_sem]) hl hs hS
    apply sc
    ·intro a w' vs σ hS hl hs hk
     have f25 : a.tmps[25]?.getD undef = .pointer (some ⟨p, 0, none⟩) := svf hk 10
     exact rp (pt p 1) (by simp [execOp, Act.eval, f25, go_sem]) hl hs hS
    apply sc
    ·intro a w' vs σ hS hl hs hk
     have f26 : a.tmps[26]?.getD undef = .pointer (some ⟨p, 1, none⟩) := svf hk 11
     have e24 : a.tmps.getD 24 undef = vs 9 := sk_val hk 9 (by kernel_rfl) rfl rfl
     have p24 : (fun u : Value => ∃ A n c, u = .slice A n c) (vs 9) := (hk.1 9 (by kernel_rfl)).1
     have f24 := gd e24
     have h3 : σ[3]? = some (.box p 33 #[.int .i64 ↑cols, v]) := hs 3 (by decide)
     obtain ⟨hx, hf, hz⟩ := (hS.box (sg h3)).facts
     obtain ⟨A9, n9, c9, q9⟩ := p24
     exact rstep_store (w2 := w'.setCell ⟨p, 1, none⟩ (.slice A9 n9 c9)) (wanted_none rfl) rfl (by simp [execOp, Act.eval, f26, e24, f24, q9, hx, hf, hz, go_sem]) (sp_set 3 (.box p 33 #[.int .i64 ↑cols, vs 9]) (by kernel_rfl) (by simp) (by decide) hl hs (by rfl) (by rw [q9]; exact hS.setBox 3 (sg h3)) trivial) trivial
    exact SSteps.nil
   ·intro vs w' hS hv
    have q0 : vs 0 = _ := hv 0 (by decide)
    have q1 : vs 1 = _ := hv 1 (by decide)
    have q2 : vs 2 = _ := hv 2 (by decide)
    have q3 : vs 3 = _ := hv 3 (by decide)
    have q4 : vs 4 = _ := hv 4 (by decide)
    have q5 : vs 5 = _ := hv 5 (by decide)
    have q6 : vs 6 = _ := hv 6 (by decide)
    have q10 : vs 10 = _ := hv 10 (by decide)
    have q11 : vs 11 = _ := hv 11 (by decide)
    have S2 := Lib.hid hS
    simp only [putL, Act.put, Nat.zero_add, Nat.reduceAdd, List.setIfInBounds_toArray, List.set_cons_succ, List.set_cons_zero, q0, q1, q2, q3, q4, q5, q6, q10, q11]
    clear hS hv q0 q1 q2 q3 q4 q5 q6 q10 q11
    go_wp2_with fail
    go_roundw
    case rel => exact ⟨k + 1, vs 9, by omega, by go_num, (S2.out.del 0).del 0⟩
    case measure => simp [intOf]; omega
  ·obtain rfl : k = rows := by omega
   have SG := Lib.hid (S.out.closeGrid (k := 0) rfl)
   clear S S1
   go_wp2_with fail
   go_ret
   exact ⟨p, rfl, SG.out⟩
end Go.Proofs.YtppijfjigcoifaaDoor

namespace Go.Proofs.YtppijfjigcoifaaDoor
open Go.RowKit

section
variable {w0 w : World} {os : List Ob} {p cols : Nat} {L : List Ln}
end
end Go.Proofs.YtppijfjigcoifaaDoor

namespace Go.Proofs.YtppijfjigcoifaaDoor
open Go.RowKit

section
variable {w0 w : World} {os : List Ob} {p cols : Nat} {L : List Ln}
end
end Go.Proofs.YtppijfjigcoifaaDoor

namespace Go.Proofs.YtppijfjigcoifaaDoor
open Go.RowKit

theorem tt_of {f : FuncId} {args : Array Value} {w : World} {b : Bool} (hc : Calls Tryd.prog f args w fun e w' => e = .returned (.bool b) ∧ Below w.heap.size w w') (h : b = true) : Calls Tryd.prog f args w fun e w' => e = .returned (.bool true) ∧ Below w.heap.size w w' := h ▸ hc
theorem ff_of {f : FuncId} {args : Array Value} {w : World} {b : Bool} (hc : Calls Tryd.prog f args w fun e w' => e = .returned (.bool b) ∧ Below w.heap.size w w') (h : b = false) : Calls Tryd.prog f args w fun e w' => e = .returned (.bool false) ∧ Below w.heap.size w w' := h ▸ hc
theorem upto_eqG {α : Type} {xs ys : List α} (hl : xs.length = ys.length) (h : ∀ k, k < xs.length → xs[k]? = ys[k]?) : xs = ys := by
 apply List.ext_getElem?
 intro k
 rcases Nat.lt_or_ge k xs.length with hk | hk
 ·exact h k hk
 ·rw [List.getElem?_eq_none hk, List.getElem?_eq_none (by omega)]
set_option maxHeartbeats 2000000 in
theorem r14SameLine_any (A B : Option Addr) (ca cb : Nat) (xs ys : List Cell) (s t : Bool) (w : World) (ha : RdC w A ca xs) (hb : RdC w B cb ys) (hn : xs.length ≤ 1000000) (hm : ys.length ≤ 1000000) :
  Calls Tryd.prog 41 #[.agg #[.slice A xs.length ca, .bool s], .agg #[.slice B ys.length cb, .bool t]] w fun e w' => e = .returned (.bool (eqL xs s ys t)) ∧ Below w.heap.size w w' := by
 have HA := Lib.hid ha
 have HB := Lib.hid hb
 clear ha hb
 have HD := Lib.hid (lineEq_dec xs ys s t)
 by_cases hst : s = t
 case neg =>
  have h' : (s == t) = false := by simpa using hst
  go_enter Tryd.func41, Tryd.ntmps41
  go_wp2_with fail
  go_ret
  exact ⟨by rw [HD.out]; simp [hst], (belA _ _).trans ((belA _ _).mono (by simp))⟩
 subst hst
 by_cases hl : xs.length = ys.length
 case neg =>
  have HE := Lib.hid (show decide (xs = ys) = false by simp; intro h; exact hl (by rw [h]))
  have hl' : ((xs.length : Int) == (ys.length : Int)) = false := by rw [beq_eq_false_iff_ne]; omega
  clear hl
  go_enter Tryd.func41, Tryd.ntmps41
  go_wp2_with fail
  go_ret
  exact ⟨by rw [HD.out, HE.out]; simp, (belA _ _).trans ((belA _ _).mono (by simp))⟩
 have hl' : ((xs.length : Int) == (ys.length : Int)) = true := by simp; omega
 have HL := Lib.hid hl
 clear hl
 go_enter Tryd.func41, Tryd.ntmps41
 go_wp2_with fail
 go_loopw [5] (fun i wr => ∃ k : Nat, k ≤ xs.length ∧ i = .int .i64 k ∧ (∀ j, j < k → xs[j]? = ys[j]?) ∧ Blk wr w.heap.size 39 #[.slice A xs.length ca, .bool s] ∧ Blk wr (w.heap.size + 1) 39 #[.slice B ys.length cb, .bool s] ∧ Below w.heap.size w wr) (fun i _ => xs.length - (intOf i).toNat)
 case atStart => exact ⟨0, by omega, rfl, fun j hj => by omega, (Blk.new _ _ _).alloc _, by have := Blk.new (w.alloc (.cells #[.slice A xs.length ca, .bool s] 39)) 39 #[.slice B ys.length cb, .bool s]; simpa using this, (belA _ _).trans ((belA _ _).mono (by simp))⟩
 case round =>
  obtain ⟨k, hk, rfl, hj, hk1, hk2, hb⟩ := hrel
  have HJ := Lib.hid hj
  have HW := Lib.hid hb
  have K1 := Lib.hid hk1
  have K2 := Lib.hid hk2
  obtain ⟨hx1, hf1, hz1⟩ := hk1.facts
  obtain ⟨hx2, hf2, hz2⟩ := hk2.facts
  clear hj hb hk1 hk2
  by_cases hlt : k < xs.length
  ·have hlt2 : k < ys.length := by have := HL.out; omega
   obtain ⟨b1, o1, rfl, hz3, hr1⟩ := (HA.out.bel HW.out).at_ hlt
   obtain ⟨b2, o2, rfl, hz4, hr2⟩ := (HB.out.bel HW.out).at_ hlt2
   have hc1 := elem_cell hr1 hlt
   have hc2 := elem_cell hr2 hlt2
   clear hr1 hr2
   by_cases he : xs[k] = ys[k]
   ·have he' : decide (xs[k] = ys[k]) = true := by simpa using he
    have HE := Lib.hid he
    clear he
    go_wp2_with fail
    refine wp_region_below (by kernel_rfl) (by kernel_rfl) ?_
    repeat (go_big_quiet_step (fail))
    refine wpQuiet_nil ?_
    intro w2 hb2
    have K12 := Lib.hid (K1.out.bel hb2)
    have K22 := Lib.hid (K2.out.bel hb2)
    clear hx1 hf1 hz1 hx2 hf2 hz2 hc1 hc2
    go_wp2_with fail
    go_roundw
    case rel => exact ⟨k + 1, by omega, by go_num, upto_succ HJ.out (by rw [List.getElem?_eq_getElem hlt, List.getElem?_eq_getElem hlt2, HE.out]), K12.out, K22.out, HW.out.trans (hb2.mono HW.out.size)⟩
    case measure => simp [intOf]; omega
   ·have he' : decide (xs[k] = ys[k]) = false := by simpa using he
    have HE := Lib.hid (show decide (xs = ys) = false by simp; rintro rfl; exact he rfl)
    clear he
    go_wp2_with fail
    refine wp_region_below (by kernel_rfl) (by kernel_rfl) ?_
    repeat (go_big_quiet_step (fail))
    refine wpQuiet_nil ?_
    intro w2 hb2
    clear hx1 hf1 hz1 hx2 hf2 hz2 hc1 hc2
    go_wp2_with fail
    go_ret
    exact ⟨by rw [HD.out, HE.out]; simp, HW.out.trans (hb2.mono HW.out.size)⟩
  ·have HE := Lib.hid (show decide (xs = ys) = true by simp; exact upto_eq HL.out (fun j hj => HJ.out j (by omega)))
   go_wp2_with fail
   go_ret
   exact ⟨by rw [HD.out, HE.out]; simp, HW.out⟩
theorem eqL_line (a b : Ln) : eqL a.1 a.2 b.1 b.2 = decide (a = b) := rfl
set_option maxHeartbeats 2000000 in
theorem r14SameLines_any (A B : Option Addr) (ca cb : Nat) (xs ys : List Ln) (w : World) (ha : RdL w A ca xs) (hb : RdL w B cb ys) (hn : xs.length ≤ 1000000) (hm : ys.length ≤ 1000000) (hx : ∀ l ∈ xs, l.1.length ≤ 1000000) (hy : ∀ l ∈ ys, l.1.length ≤ 1000000) :
  Calls Tryd.prog 19 #[.slice A xs.length ca, .slice B ys.length cb] w fun e w' => e = .returned (.bool (decide (xs = ys))) ∧ Below w.heap.size w w' := by
 have HA := Lib.hid ha
 have HB := Lib.hid hb
 have HX := Lib.hid hx
 have HY := Lib.hid hy
 clear ha hb hx hy
 by_cases hl : xs.length = ys.length
 case neg =>
  have HE := Lib.hid (show decide (xs = ys) = false by simp; intro h; exact hl (by rw [h]))
  have hl' : ((xs.length : Int) == (ys.length : Int)) = false := by rw [beq_eq_false_iff_ne]; omega
  clear hl
  go_enter Tryd.func19, Tryd.ntmps19
  go_wp2_with fail
  go_ret
  exact ⟨by rw [HE.out]; rfl, Below.refl _ _⟩
 have hl' : ((xs.length : Int) == (ys.length : Int)) = true := by simp; omega
 have HL := Lib.hid hl
 clear hl
 go_enter Tryd.func19, Tryd.ntmps19
 go_wp2_with fail
 go_loopw [5] (fun i wr => ∃ k : Nat, k ≤ xs.length ∧ i = .int .i64 k ∧ (∀ j, j < k → xs[j]? = ys[j]?) ∧ Below w.heap.size w wr) (fun i _ => xs.length - (intOf i).toNat)
 case atStart => exact ⟨0, by omega, rfl, fun j hj => by omega, Below.refl _ _⟩
 case round =>
  obtain ⟨k, hk, rfl, hj, hb⟩ := hrel
  have HJ := Lib.hid hj
  have HW := Lib.hid hb
  clear hj hb
  by_cases hlt : k < xs.length
  ·have hlt2 : k < ys.length := by have := HL.out; omega
   obtain ⟨b1, o1, A1, c1, rfl, hz1, hc1, hc2, hr1⟩ := (HA.out.bel HW.out).at_ (show xs[k]? = some xs[k] by simp [hlt])
   obtain ⟨b2, o2, A2, c2, rfl, hz2, hc3, hc4, hr2⟩ := (HB.out.bel HW.out).at_ (show ys[k]? = some ys[k] by simp [hlt2])
   have HR1 := Lib.hid hr1
   have HR2 := Lib.hid hr2
   clear hr1 hr2
   have HN1 := Lib.hid (HX.out _ (List.getElem_mem hlt))
   have HN2 := Lib.hid (HY.out _ (List.getElem_mem hlt2))
   by_cases he : xs[k] = ys[k]
   ·have HE := Lib.hid he
    have HQ := Lib.hid (show eqL xs[k].1 xs[k].2 ys[k].1 ys[k].2 = true by rw [eqL_line]; simpa using he)
    clear he
    go_wp2_with fail
    refine wp_region_below (by kernel_rfl) (by kernel_rfl) ?_
    repeat (go_big_quiet_step ((go_at_call 41; exact quiet_below (tt_of (r14SameLine_any A1 A2 c1 c2 xs[k].1 ys[k].1 xs[k].2 ys[k].2 _ (HR1.out.bel (below_plus _ _)) (HR2.out.bel (below_plus _ _)) HN1.out HN2.out) HQ.out))))
    refine wpQuiet_nil ?_
    intro w2 hb2
    clear hc1 hc2 hc3 hc4
    go_wp2_with fail
    go_roundw
    case rel => exact ⟨k + 1, by omega, by go_num, upto_succ HJ.out (by rw [List.getElem?_eq_getElem hlt, List.getElem?_eq_getElem hlt2, HE.out]), HW.out.trans (hb2.mono HW.out.size)⟩
    case measure => simp [intOf]; omega
   ·have HE := Lib.hid (show decide (xs = ys) = false by simp; rintro rfl; exact he rfl)
    have HQ := Lib.hid (show eqL xs[k].1 xs[k].2 ys[k].1 ys[k].2 = false by rw [eqL_line]; simpa using he)
    clear he
    go_wp2_with fail
    refine wp_region_below (by kernel_rfl) (by kernel_rfl) ?_
    repeat (go_big_quiet_step ((go_at_call 41; exact quiet_below (ff_of (r14SameLine_any A1 A2 c1 c2 xs[k].1 ys[k].1 xs[k].2 ys[k].2 _ (HR1.out.bel (below_plus _ _)) (HR2.out.bel (below_plus _ _)) HN1.out HN2.out) HQ.out))))
    refine wpQuiet_nil ?_
    intro w2 hb2
    clear hc1 hc2 hc3 hc4
    go_wp2_with fail
    go_ret
    exact ⟨by rw [HE.out]; rfl, HW.out.trans (hb2.mono HW.out.size)⟩
  ·have HE := Lib.hid (show decide (xs = ys) = true by simp; exact upto_eqG HL.out (fun j hj => HJ.out j (by omega)))
   go_wp2_with fail
   go_ret
   exact ⟨by rw [HE.out]; rfl, HW.out⟩
end Go.Proofs.YtppijfjigcoifaaDoor

namespace Go.Proofs.YtppijfjigcoifaaDoor
open Go.RowKit

end Go.Proofs.YtppijfjigcoifaaDoor

namespace Go.Proofs.YtppijfjigcoifaaDoor
open Go.RowKit

section
variable {w0 w : World} {os : List Ob}
end
end Go.Proofs.YtppijfjigcoifaaDoor

namespace Go.Proofs.YtppijfjigcoifaaDoor
open Go.RowKit

def rowMod (i : Nat) (f : List Cell → List Cell) (L : List Ln) : List Ln := match L[i]? with | some l => L.set i (f l.1, l.2) | none => L
def softMod (i : Nat) (s : Bool) (L : List Ln) : List Ln := match L[i]? with | some l => L.set i (l.1, s) | none => L
theorem rowMod_some {i : Nat} {f : List Cell → List Cell} {L : List Ln} {l : Ln} (h : L[i]? = some l) : rowMod i f L = L.set i (f l.1, l.2) := by unfold rowMod; rw [h]
theorem rowMod_length (i : Nat) (f : List Cell → List Cell) (L : List Ln) : (rowMod i f L).length = L.length := by unfold rowMod; split <;> simp
theorem softMod_length (i : Nat) (s : Bool) (L : List Ln) : (softMod i s L).length = L.length := by unfold softMod; split <;> simp
theorem rect_set {n i : Nat} {L : List Ln} {l : Ln} (h : Rect n L) (hl : l.1.length = n) : Rect n (L.set i l) := fun x hx => by
 rcases List.mem_or_eq_of_mem_set hx with h1 | rfl
 ·exact h x h1
 ·exact hl
theorem Rect.rowMod {n : Nat} {L : List Ln} (h : Rect n L) (i : Nat) {f : List Cell → List Cell} (hf : ∀ cs : List Cell, cs.length = n → (f cs).length = n) : Rect n (rowMod i f L) := by
 unfold Proofs.YtppijfjigcoifaaDoor.rowMod
 split
 ·rename_i l hl; exact rect_set h (hf _ (h.at_ hl))
 ·exact h
theorem Rect.softMod {n : Nat} {L : List Ln} (h : Rect n L) (i : Nat) (s : Bool) : Rect n (softMod i s L) := by
 unfold Proofs.YtppijfjigcoifaaDoor.softMod
 split
 ·rename_i l hl; exact rect_set h (show l.1.length = n from h.at_ hl)
 ·exact h
theorem Rect.mill {n : Nat} {L : List Ln} (h : Rect n L) (hn : n ≤ 1000) : ∀ l ∈ L, l.1.length ≤ 1000000 := fun l hl => by rw [h l hl]; omega
theorem get_of {α : Type} {L : List α} {i : Nat} (h : i < L.length) : ∃ l, L[i]? = some l := ⟨L[i], by simp [h]⟩
section
variable {w0 w : World} {os : List Ob} {k p cols : Nat} {L : List Ln}
theorem set_at {k : Nat} {o o' : Ob} (hk : os[k]? = some o) : (os.set k o')[k]? = some o' := List.getElem?_set_self (List.getElem?_eq_some_iff.1 hk).1
theorem PutG {i j : Nat} (x : Cell) (hT : Tabs w0) (hS : Objs w0 w os) (hk : os[k]? = some (.grid p 58 cols L)) (hcm : cols ≤ 1000) (hR : Rect cols L) (hi : i < L.length) (hv : x.ok = true) (hw : ¬ x.width = 0) (hfit : (j : Int) + x.width ≤ cols) :
  Calls Tryd.prog 33 #[.pointer (some ⟨p, 0, none⟩), .int .i64 i, .int .i64 j, .agg (cv x)] w fun e w' => e = .returned (.int .i64 0) ∧ Objs w0 w' (os.set k (.grid p 58 cols (rowMod i (putC j x) L))) := by
 obtain ⟨l, hl⟩ := get_of hi
 rw [rowMod_some hl]
 have hxw : 1 ≤ x.width := by rcases ok_w12 hv hw with h | h <;> omega
 exact front_call hS hk (fun os1 h => Put_yes x hT h (by omega) hcm hl (hR.at_ hl) hv hw hfit)
theorem r14PutG {i j : Nat} (x : Cell) (hS : Objs w0 w os) (hk : os[k]? = some (.grid p 33 cols L)) (hcm : cols ≤ 1000) (hR : Rect cols L) (hi : i < L.length) (hv : x.ok = true) (hw : ¬ x.width = 0) (hfit : (j : Int) + x.width ≤ cols) :
  Calls Tryd.prog 34 #[.pointer (some ⟨p, 0, none⟩), .int .i64 i, .int .i64 j, .agg (cv x)] w fun e w' => e = .returned (.tuple #[]) ∧ Objs w0 w' (os.set k (.grid p 33 cols (rowMod i (putC j x) L))) := by
 obtain ⟨l, hl⟩ := get_of hi
 rw [rowMod_some hl]
 have hxw : 1 ≤ x.width := by rcases ok_w12 hv hw with h | h <;> omega
 exact front_call hS hk (fun os1 h => r14Put_any x h (by omega) hcm hl (hR.at_ hl) hv hw hfit)
end
end Go.Proofs.YtppijfjigcoifaaDoor

namespace Go.Proofs.YtppijfjigcoifaaDoor
open Go.RowKit

theorem cAt_set (cs : List Cell) (i j : Nat) (x : Cell) : cAt (cs.set i x) j = if i = j ∧ i < cs.length then x else cAt cs j := by
 unfold cAt
 simp only [List.getD_eq_getElem?_getD, List.getElem?_set]
 by_cases h : i = j
 ·subst h
  by_cases h2 : i < cs.length
  ·simp [h2]
  ·simp [h2]
 ·simp [h]
theorem cells_ext {xs ys : List Cell} (hl : xs.length = ys.length) (h : ∀ j, j < xs.length → cAt xs j = cAt ys j) : xs = ys := by
 apply List.ext_getElem hl
 intro j h1 h2
 have := h j h1
 rwa [cAt_eq h1, cAt_eq h2] at this
theorem cAt_brk (c : Nat) (cs : List Cell) (j : Nat) : cAt (brk c cs) j = if (1 ≤ c ∧ c < cs.length ∧ (cAt cs (c - 1)).width = 2) ∧ (j + 1 = c ∨ j = c) then blank (cAt cs j).pen else cAt cs j := by
 cases c with
 | zero => simp [brk]
 | succ m =>
  rw [brk_succ]
  by_cases h : m + 1 < cs.length ∧ (cAt cs m).width = 2
  ·rw [if_pos h, cAt_set, cAt_set]
   simp only [List.length_set, Nat.add_sub_cancel]
   by_cases h1 : m + 1 = j
   ·subst h1; simp [h.1, h.2]
   ·by_cases h2 : m = j
    ·subst h2; simp [h.2, show m < cs.length by omega, h.1]
    ·rw [if_neg (by omega), if_neg (by omega), if_neg (by omega)]
  ·rw [if_neg h, if_neg]
   simp only [Nat.add_sub_cancel]
   intro h2; exact h ⟨h2.1.2.1, h2.1.2.2⟩
theorem cAt_wipe {a m : Nat} {p : Pen} {cs : List Cell} (h : a + m ≤ cs.length) (j : Nat) : cAt (wipeC a m p cs) j = if a ≤ j ∧ j < a + m then blank p else cAt cs j := by
 unfold cAt wipeC
 simp only [List.getD_eq_getElem?_getD]
 by_cases h1 : j < a
 ·rw [if_neg (by omega), List.append_assoc, List.getElem?_append_left (by simp; omega), List.getElem?_take, if_pos h1]
 ·by_cases h2 : j < a + m
  ·rw [if_pos ⟨by omega, h2⟩, List.append_assoc, List.getElem?_append_right (by simp; omega), List.getElem?_append_left (by simp; omega)]
   simp [List.getElem?_replicate, show min a cs.length = a by omega, show j - a < m by omega]
  ·rw [if_neg (by omega), List.getElem?_append_right (by simp; omega), List.getElem?_drop]
   congr 2
   simp; omega
def lnMod (i : Nat) (F : Ln → Ln) (L : List Ln) : List Ln := match L[i]? with | some l => L.set i (F l) | none => L
theorem lnMod_get (i : Nat) (F : Ln → Ln) (L : List Ln) (r : Nat) : (lnMod i F L)[r]? = (L[r]?).map (fun l => if r = i then F l else l) := by
 unfold lnMod
 split
 ·rename_i l hl
  rw [List.getElem?_set]
  by_cases h : i = r
  ·subst h
   have hi := (List.getElem?_eq_some_iff.1 hl).1
   rw [if_pos rfl, if_pos hi, hl]
   simp
  ·rw [if_neg h]
   have h' : ¬ r = i := fun e => h e.symm
   simp [h']
 ·rename_i hl
  by_cases h : r = i
  ·subst h; rw [hl]; rfl
  ·simp [h]
theorem rowMod_is (i : Nat) (f : List Cell → List Cell) (L : List Ln) : rowMod i f L = lnMod i (fun l => (f l.1, l.2)) L := rfl
theorem softMod_is (i : Nat) (s : Bool) (L : List Ln) : softMod i s L = lnMod i (fun l => (l.1, s)) L := rfl
theorem lnMod_lnMod (i : Nat) (F G : Ln → Ln) (L : List Ln) : lnMod i F (lnMod i G L) = lnMod i (fun l => F (G l)) L := by
 apply List.ext_getElem?
 intro r
 rw [lnMod_get, lnMod_get, lnMod_get, Option.map_map]
 congr 1
 funext l
 by_cases h : r = i <;> simp [h]
theorem Rect.lnMod {n : Nat} {L : List Ln} (h : Rect n L) (i : Nat) {F : Ln → Ln} (hF : ∀ l : Ln, l.1.length = n → (F l).1.length = n) : Rect n (lnMod i F L) := by
 unfold Proofs.YtppijfjigcoifaaDoor.lnMod
 split
 ·rename_i l hl; exact rect_set h (hF _ (h.at_ hl))
 ·exact h
def otherRow (row : Nat) (k : Int) (n : Nat) : Prop := (n < row ∧ ¬ k = 0) ∨ (row < n ∧ ¬ k = 1)
instance (row : Nat) (k : Int) (n : Nat) : Decidable (otherRow row k n) := by unfold otherRow; infer_instance
section
variable {cols row col : Nat} {k : Int} {q : Pen} {L : List Ln}
end
end Go.Proofs.YtppijfjigcoifaaDoor

namespace Go.Proofs.YtppijfjigcoifaaDoor
open Go.RowKit

def inG (row col : Int) (pend : Bool) (rows cols : Nat) : Bool := decide ((0 ≤ row ∧ row < rows) ∧ (0 ≤ col ∧ col < cols) ∧ (pend = true → col = (cols : Int) - 1))
theorem ingrid_iff {row col : Int} {pend : Bool} {rows cols : Nat} : inG row col pend rows cols = true ↔ (0 ≤ row ∧ row < rows) ∧ (0 ≤ col ∧ col < cols) ∧ (pend = true → col = (cols : Int) - 1) := decide_eq_true_iff
section
variable {w0 w : World} {os : List Ob} {k p cols : Nat} {L : List Ln}
end
end Go.Proofs.YtppijfjigcoifaaDoor

namespace Go.Proofs.YtppijfjigcoifaaDoor
open Go.RowKit

end Go.Proofs.YtppijfjigcoifaaDoor

namespace Go.Proofs.YtppijfjigcoifaaDoor
open Go.RowKit

abbrev Tr := Value × Ln
section
variable {w0 w : World} {os : List Ob}
end
end Go.Proofs.YtppijfjigcoifaaDoor

namespace Go.Proofs.YtppijfjigcoifaaDoor
open Go.RowKit

section
variable {w0 w : World} {os : List Ob} {v : Value} {hp : List (Value × Bool)}
end
end Go.Proofs.YtppijfjigcoifaaDoor
