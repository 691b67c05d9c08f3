/-
  Fixing cells: the plain function; storing into a slice of cells of the call's own.
-/
import Derived.Test.YtmfhepjmmpnkaaaDoorSlice
import Derived.Laws.CopyRow
set_option linter.unusedSimpArgs false
set_option linter.unusedVariables false
namespace Go.Proofs.YtmfhepjmmpnkaaaDoor
open Go.RowKit

/-- What becomes of a cell behind one (already fixed) and before another. -/
def fixStep (prev : Option Cell) (c : Cell) (next : Option Cell) : Cell :=
  if c.width = 0 then (if prev.any (fun d => decide (d.width = 2)) = true then spacer (prev.getD cell0).pen else blank c.pen)
  else if c.width = 2 then (if next.any (fun d => decide (d.width = 0)) = true then c else blank c.pen) else c
def fixGo : Option Cell → List Cell → List Cell
  | _, [] => []
  | p, c :: r => fixStep p c r.head? :: fixGo (some (fixStep p c r.head?)) r
def fixL (cs : List Cell) : List Cell := fixGo none cs
theorem fixGo_length (p : Option Cell) (cs : List Cell) : (fixGo p cs).length = cs.length := by
  induction cs generalizing p with
  | nil => rfl
  | cons c r ih => simp [fixGo, ih]
theorem fixL_length (cs : List Cell) : (fixL cs).length = cs.length := fixGo_length none cs
theorem fixGo_get (p : Option Cell) (cs : List Cell) (k : Nat) (h : k < cs.length) :
    (fixGo p cs)[k]? = some (fixStep (if k = 0 then p else (fixGo p cs)[k - 1]?) cs[k] cs[k + 1]?) := by
  induction cs generalizing p k with
  | nil => simp at h
  | cons c r ih =>
    cases k with
    | zero => simp [fixGo, List.head?_eq_getElem?]
    | succ k =>
      simp only [fixGo, List.getElem?_cons_succ, List.getElem_cons_succ, Nat.add_sub_cancel]
      rw [ih _ k (by simpa using h)]
      cases k with
      | zero => simp
      | succ k => simp
theorem fixL_get (cs : List Cell) (k : Nat) (h : k < cs.length) (h2 : k < (fixL cs).length) : (fixL cs)[k] = fixStep (if k = 0 then none else (fixL cs)[k - 1]?) cs[k] cs[k + 1]? := by
  have := fixGo_get none cs k h
  rw [show (fixGo none cs)[k]? = some (fixL cs)[k] from List.getElem?_eq_getElem h2] at this
  exact Option.some.inj this
/-- The cells before round k. -/
def fixTo (cs : List Cell) (k : Nat) : List Cell := (fixL cs).take k ++ cs.drop k
theorem fixTo_length (cs : List Cell) (k : Nat) : (fixTo cs k).length = cs.length := by simp [fixTo, fixL_length]; omega
theorem fixTo_zero (cs : List Cell) : fixTo cs 0 = cs := by simp [fixTo]
theorem fixTo_all (cs : List Cell) : fixTo cs cs.length = fixL cs := by
  simp [fixTo]; exact List.take_of_length_le (by rw [fixL_length]; omega)
theorem fixTo_get {cs : List Cell} {k : Nat} (h : k < cs.length) (j : Nat) : (fixTo cs k)[j]? = if j < k then (fixL cs)[j]? else cs[j]? := by
  have hl : ((fixL cs).take k).length = k := by simp [fixL_length]; omega
  unfold fixTo
  split
  · rename_i hj; rw [List.getElem?_append_left (by omega), List.getElem?_take_of_lt hj]
  · rename_i hj; rw [List.getElem?_append_right (by omega), hl, List.getElem?_drop]; congr 1; omega
theorem fixTo_here {cs : List Cell} {k : Nat} (h : k < cs.length) (h' : k < (fixTo cs k).length) : (fixTo cs k)[k] = cs[k] := by
  have := fixTo_get h k
  rw [List.getElem?_eq_getElem h', if_neg (show ¬ k < k by omega), List.getElem?_eq_getElem h] at this
  exact Option.some.inj this
theorem fixTo_next {cs : List Cell} {k : Nat} (h : k + 1 < cs.length) (h' : k + 1 < (fixTo cs k).length) : (fixTo cs k)[k + 1] = cs[k + 1] := by
  have := fixTo_get (cs := cs) (k := k) (by omega) (k + 1)
  rw [List.getElem?_eq_getElem h', if_neg (show ¬ k + 1 < k by omega), List.getElem?_eq_getElem h] at this
  exact Option.some.inj this
theorem fixTo_prev {cs : List Cell} {k : Nat} (h : k + 1 < cs.length) (h' : k < (fixTo cs (k + 1)).length) (h2 : k < (fixL cs).length) : (fixTo cs (k + 1))[k] = (fixL cs)[k] := by
  have := fixTo_get h k
  rw [List.getElem?_eq_getElem h', if_pos (show k < k + 1 by omega), List.getElem?_eq_getElem h2] at this
  exact Option.some.inj this
/-- One round. -/
theorem fixTo_succ {cs : List Cell} {k : Nat} (h : k < cs.length) : fixTo cs (k + 1) = (fixTo cs k).set k (fixStep (if k = 0 then none else (fixL cs)[k - 1]?) cs[k] cs[k + 1]?) := by
  have h2 : k < (fixL cs).length := by rw [fixL_length]; exact h
  apply List.ext_getElem? fun j => ?_
  rw [List.getElem?_set, fixTo_get h]
  rcases Nat.lt_or_ge (k + 1) cs.length with h3 | h3
  · rw [fixTo_get h3]
    by_cases hj : k = j
    · subst hj
      simp only [if_true, Nat.lt_succ_self, fixTo_length, h]
      rw [List.getElem?_eq_getElem h2, fixL_get cs k h h2]
    · rw [if_neg hj]
      by_cases h4 : j < k
      · rw [if_pos h4, if_pos (by omega)]
      · rw [if_neg h4, if_neg (by omega)]
  · have hk1 : k + 1 = cs.length := by omega
    rw [show fixTo cs (k + 1) = fixL cs by rw [hk1, fixTo_all]]
    by_cases hj : k = j
    · subst hj
      simp only [if_true, fixTo_length, h]
      rw [List.getElem?_eq_getElem h2, fixL_get cs k h h2]
    · rw [if_neg hj]
      by_cases h4 : j < k
      · rw [if_pos h4]
      · rw [if_neg h4, List.getElem?_eq_none (by rw [fixL_length]; omega), List.getElem?_eq_none (by omega)]
theorem fixTo_same {cs : List Cell} {k : Nat} (h : k < cs.length) (he : fixStep (if k = 0 then none else (fixL cs)[k - 1]?) cs[k] cs[k + 1]? = cs[k]) : fixTo cs (k + 1) = fixTo cs k := by
  rw [fixTo_succ h, he]
  have hl : k < (fixTo cs k).length := by rw [fixTo_length]; exact h
  rw [← fixTo_here h hl, List.set_getElem_self]

/-- What the walk asks of a slice of cells that it owns: its block. -/
theorem OwnC.blk {w : World} {B : Nat} {v : Value} {cs : List Cell} (h : OwnC w B v cs) (hn : 0 < cs.length) : ∃ g cap, v = .slice (some ⟨g, 0, none⟩) cs.length cap ∧ B ≤ g ∧ g < w.heap.size ∧ w.rangeAt g 0 (flat cs) := by
  rcases h.2 with ⟨rfl, h0⟩ | ⟨g, cap, cur, rfl, hb, hg, hnc, hm, hsz, htk⟩
  · omega
  · refine ⟨g, cap, rfl, hb, (show Blk w g 30 cur from hg).lt, fun j u hu => ?_⟩
    rw [Nat.zero_add, (show Blk w g 30 cur from hg).cell]
    rw [← htk, List.getElem?_take] at hu
    split at hu
    · simpa using hu
    · cases hu
theorem flat_take (cs : List Cell) (k : Nat) : (flat cs).take (k * 16) = flat (cs.take k) := by
  induction cs generalizing k with
  | nil => simp [flat]
  | cons c r ih =>
    cases k with
    | zero => simp [flat]
    | succ k =>
      rw [flat_cons, List.take_succ_cons, flat_cons, ← ih k, List.take_append]
      simp only [Array.length_toList, cv_size]
      rw [List.take_of_length_le (by simp [cv_size]; omega), show (k + 1) * 16 - 16 = k * 16 by omega]
theorem flat_drop (cs : List Cell) (k : Nat) : (flat cs).drop (k * 16) = flat (cs.drop k) := by
  induction cs generalizing k with
  | nil => simp [flat]
  | cons c r ih =>
    cases k with
    | zero => simp
    | succ k =>
      rw [flat_cons, List.drop_succ_cons, ← ih k, List.drop_append]
      simp only [Array.length_toList, cv_size]
      rw [List.drop_eq_nil_of_le (by simp [cv_size]; omega), show (k + 1) * 16 - 16 = k * 16 by omega, List.nil_append]
theorem flat_set (cs : List Cell) (k : Nat) (d : Cell) (h : k < cs.length) : flat (cs.set k d) = (flat cs).take (k * 16) ++ (cv d).toList ++ (flat cs).drop ((k + 1) * 16) := by
  rw [List.set_eq_take_append_cons_drop, if_pos h, flat_append, flat_cons, flat_take, flat_drop, List.append_assoc]
/-- A cell stored into a slice of cells that the call owns. -/
theorem OwnC.put {w : World} {B g cap : Nat} {cs : List Cell} (h : OwnC w B (.slice (some ⟨g, 0, none⟩) cs.length cap) cs) {k : Nat} (hk : k < cs.length) (d : Cell) :
    ∃ W, (storeCells ⟨g, k * 16, none⟩ (cv d).toList 0).run Tryd.prog w = .ok () W ∧ OwnC W B (.slice (some ⟨g, 0, none⟩) cs.length cap) (cs.set k d) ∧ w.grownBy W (some g) := by
  rcases h.2 with ⟨h', _⟩ | ⟨g', cap', cur, h', hb, hg, hnc, hm, hsz, htk⟩
  · simp at h'
  · simp only [Value.slice.injEq, Option.some.injEq, Addr.mk.injEq, and_true, true_and] at h'
    obtain ⟨rfl, rfl⟩ := h'
    have hs := run_storeCells_at (P := Tryd.prog) g (k * 16) 30 (cv d).toList 0 cur w hg (by simp [cv_size, hsz]; omega) (cv_one d)
    refine ⟨_, hs, ⟨by rw [flat_length], .inr ⟨g, cap, _, by simp, hb, setRow_heap w g cur _ 30 _ hg, by simpa using hnc, hm, ?_, ?_⟩⟩, ⟨rfl, rfl, rfl, by simp, fun i _ hi => setRow_other w g i _ (fun e => hi (by rw [e]))⟩⟩
    · simp [cv_size, hsz]; omega
    · have hX : cur.toList = flat cs ++ cur.toList.drop (cs.length * 16) := by rw [← htk, List.take_append_drop]
      have hl := flat_length cs
      rw [flat_set cs k d hk, hX]
      simp only [List.length_set, Nat.add_zero, Array.length_toList, cv_size]
      rw [List.take_append_of_le_length (l₂ := cur.toList.drop _) (by omega), List.drop_append_of_le_length (by omega), ← List.append_assoc, List.take_left' ?_, show (k + 1) * 16 = k * 16 + 16 by omega]
      simp [cv_size, hl]; omega

end Go.Proofs.YtmfhepjmmpnkaaaDoor
