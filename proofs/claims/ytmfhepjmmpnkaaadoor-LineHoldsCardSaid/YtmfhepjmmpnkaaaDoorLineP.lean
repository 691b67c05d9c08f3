/-
  Lines: the plain functions (used, trimmed, fitted, put) and their laws.
-/
import Derived.Test.YtmfhepjmmpnkaaaDoorRowP
set_option linter.unusedSimpArgs false
set_option linter.unusedVariables false
namespace Go.Proofs.YtmfhepjmmpnkaaaDoor
open Go.RowKit

def cEmp : Cell := blank pen0
def lineOk (cs : List Cell) : Bool := decide (cs.length ≤ 1000) && rowOk cs
def usedOf : List Cell → Nat
  | [] => 0
  | c :: r => if usedOf r = 0 then (if c = cEmp then 0 else 1) else usedOf r + 1
theorem usedOf_le (cs : List Cell) : usedOf cs ≤ cs.length := by
  induction cs with
  | nil => exact Nat.le_refl _
  | cons c r ih => simp only [usedOf, List.length_cons]; split; (split <;> omega); omega
theorem usedOf_snoc (cs : List Cell) (c : Cell) : usedOf (cs ++ [c]) = if c = cEmp then usedOf cs else cs.length + 1 := by
  induction cs with
  | nil => simp [usedOf]
  | cons d r ih =>
    rw [List.cons_append]
    simp only [usedOf, ih]
    by_cases h : c = cEmp
    · simp [h]
    · simp [h]
theorem usedOf_take {cs : List Cell} {k : Nat} (hk : k < cs.length) : usedOf (cs.take (k + 1)) = if cs[k] = cEmp then usedOf (cs.take k) else k + 1 := by
  rw [List.take_succ_eq_append_getElem hk, usedOf_snoc, List.length_take, Nat.min_eq_left (Nat.le_of_lt hk)]
theorem usedOf_self (cs : List Cell) : usedOf (cs.take (usedOf cs)) = usedOf cs := by
  induction cs with
  | nil => rfl
  | cons c r ih =>
    simp only [usedOf]
    split
    · rename_i h
      split
      · rfl
      · rename_i h2; simp [usedOf, h2]
    · rename_i h
      rw [List.take_succ_cons]
      simp only [usedOf, ih, if_neg h]
theorem usedOf_more (cs : List Cell) (n : Nat) : usedOf (cs ++ List.replicate n cEmp) = usedOf cs := by
  induction n with
  | zero => simp
  | succ n ih => rw [List.replicate_succ', ← List.append_assoc, usedOf_snoc, if_pos rfl, ih]
def trimL (cs : List Cell) : List Cell := cs.take (usedOf cs)
def empties (n : Nat) : List Cell := List.replicate n cEmp
def fitTo (n : Nat) (cs : List Cell) : List Cell := fixL (cs.take n) ++ empties (n - cs.length)
theorem fitTo_length (n : Nat) (cs : List Cell) : (fitTo n cs).length = n := by simp [fitTo, fixL_length, empties]; omega
def putAt (at_ : Nat) (ds cs : List Cell) : List Cell := fixL (cs.take at_) ++ ds ++ fixL (cs.drop (at_ + ds.length))
theorem putAt_length {at_ : Nat} {ds cs : List Cell} (h : at_ + ds.length ≤ cs.length) : (putAt at_ ds cs).length = cs.length := by simp [putAt, fixL_length]; omega
theorem row_all {cs : List Cell} (h : rowOk cs = true) : ∀ c ∈ cs, c.ok = true := fun c hc => by
  obtain ⟨k, hk, rfl⟩ := List.getElem_of_mem hc
  exact (row_parts hk (rowOk_at h hk)).1
theorem row_nil : rowOk [] = true := rfl
theorem row_empties (n : Nat) : rowOk (empties n) = true := by
  rw [show empties n = fixL (empties n) from ?_]
  · exact fix_valid fun c hc => by rw [List.eq_of_mem_replicate hc]; decide
  · have key : ∀ (n : Nat) (p : Option Cell), fixGo p (empties n) = empties n := by
      intro n
      induction n with
      | zero => intro p; rfl
      | succ n ih =>
        intro p
        show fixGo p (cEmp :: empties n) = cEmp :: empties n
        simp only [fixGo, ih]
        congr 1
    exact (key n none).symm
theorem fit_row (n : Nat) {cs : List Cell} (h : rowOk cs = true) : rowOk (fitTo n cs) = true :=
  row_append (fix_valid fun c hc => row_all h c (List.mem_of_mem_take hc)) (row_empties _)
theorem put_row {at_ : Nat} {ds cs : List Cell} (h : rowOk cs = true) (hd : rowOk ds = true) : rowOk (putAt at_ ds cs) = true :=
  row_append (row_append (fix_valid fun c hc => row_all h c (List.mem_of_mem_take hc)) hd) (fix_valid fun c hc => row_all h c (List.mem_of_mem_drop hc))
theorem fit_len {cs : List Cell} (h : rowOk cs = true) : fitTo cs.length cs = cs := by
  simp [fitTo, empties, fix_row h]
theorem fit_wide {cs : List Cell} (h : rowOk cs = true) (m : Nat) : fitTo (cs.length + m) cs = cs ++ empties m := by
  simp [fitTo, empties, List.take_of_length_le, fix_row h]
/-- Cells of an empty end may be left out of a row. -/
theorem row_trim {cs : List Cell} (h : rowOk cs = true) (n : Nat) (hn : n ≤ cs.length) (he : ∀ k (hk : k < cs.length), n ≤ k → cs[k] = cEmp) : rowOk (cs.take n) = true := by
  refine rowOk_yes fun k hk => ?_
  have hk' : k < n ∧ k < cs.length := by simp at hk; omega
  obtain ⟨p1, p2, p3, p4⟩ := row_parts hk'.2 (rowOk_at h hk'.2)
  have hg : (cs.take n)[k] = cs[k] := by simp
  have hb : behindAt (cs.take n) k = behindAt cs k := by
    cases k with
    | zero => rfl
    | succ k =>
      rw [behind_succ (by simp; omega), behind_succ (by omega)]
      simp
  have hc : behindAt cs k = true → (cAt (cs.take n) (k - 1)).pen = (cAt cs (k - 1)).pen := fun hb => by
    cases k with
    | zero => simp [behindAt] at hb
    | succ k => rw [Nat.add_sub_cancel, cAt_eq (by simp; omega), cAt_eq (by omega)]; simp
  refine row_of hk (by rw [hg]; exact p1) (by rw [hg, hb]; exact p2) (fun hx => ?_) (fun hx => ?_)
  · rw [hb] at hx; rw [hg, hc hx]; exact p3 hx
  · rw [hg] at hx
    have hlt := p4 hx
    have hl : (cs.take n).length = n := by simp; omega
    rw [hl]
    rcases Nat.lt_or_ge (k + 1) n with h1 | h1
    · omega
    · exfalso
      have h2 : k + 1 < cs.length := by omega
      have h3 := he (k + 1) h2 h1
      obtain ⟨_, q2, _, _⟩ := row_parts h2 (rowOk_at h h2)
      have : cs[k + 1].width = 0 := q2.2 (by rw [behind_succ hk'.2]; simpa using hx)
      rw [h3] at this
      simp [cEmp, blank] at this
theorem usedOf_rest (cs : List Cell) : ∀ k (hk : k < cs.length), usedOf cs ≤ k → cs[k] = cEmp := by
  induction cs with
  | nil => intro k hk; simp at hk
  | cons c r ih =>
    intro k hk hu
    simp only [usedOf] at hu
    cases k with
    | zero =>
      split at hu
      · split at hu
        · rename_i h; simpa using h
        · omega
      · omega
    | succ k =>
      simp only [List.getElem_cons_succ]
      apply ih
      split at hu
      · rename_i h; rw [h]; omega
      · omega
theorem trim_row {cs : List Cell} (h : rowOk cs = true) : rowOk (trimL cs) = true := row_trim h _ (usedOf_le cs) (usedOf_rest cs)
theorem trim_length (cs : List Cell) : (trimL cs).length = usedOf cs := by have := usedOf_le cs; simp [trimL]; omega
theorem trim_trim (cs : List Cell) : trimL (trimL cs) = trimL cs := by
  unfold trimL; rw [usedOf_self, List.take_take, Nat.min_self]
theorem trim_wide (cs : List Cell) (n : Nat) : trimL (cs ++ empties n) = trimL cs := by
  unfold trimL empties; rw [usedOf_more, List.take_append_of_le_length (usedOf_le cs)]
end Go.Proofs.YtmfhepjmmpnkaaaDoor
