/-
  Rows and fixing: the plain laws.
-/
import Derived.Test.YtmfhepjmmpnkaaaDoorRow2
import Derived.Test.YtmfhepjmmpnkaaaDoorFixP
import Derived.Test.YtmfhepjmmpnkaaaDoorText
set_option linter.unusedSimpArgs false
set_option linter.unusedVariables false
namespace Go.Proofs.YtmfhepjmmpnkaaaDoor
open Go.RowKit

theorem rowOk_at {cs : List Cell} (h : rowOk cs = true) {k : Nat} (hk : k < cs.length) : rowAt cs k = true := List.all_eq_true.1 h k (by simp [hk])
theorem fixL_step' {cs : List Cell} {k : Nat} (h : k < cs.length) : (fixL cs)[k]? = some (fixStep (if k = 0 then none else (fixL cs)[k - 1]?) cs[k] cs[k + 1]?) := fixGo_get none cs k h
theorem same_lists {xs ys : List Cell} (hl : xs.length = ys.length) (h : ∀ k, k < xs.length → xs[k]? = ys[k]?) : xs = ys := by
  apply List.ext_getElem? fun k => ?_
  rcases Nat.lt_or_ge k xs.length with hk | hk
  · exact h k hk
  · rw [List.getElem?_eq_none hk, List.getElem?_eq_none (by omega)]

/-- What stands in the middle of a row. -/
theorem row_parts {cs : List Cell} {k : Nat} (hk : k < cs.length) (h : rowAt cs k = true) : cs[k].ok = true ∧ (cs[k].width = 0 ↔ behindAt cs k = true) ∧ (behindAt cs k = true → cs[k].pen = (cAt cs (k - 1)).pen) ∧ (cs[k].width = 2 → k + 1 ≠ cs.length) := by
  rw [rowAt, cAt_eq hk] at h
  simp only [Bool.and_eq_true, beq_iff_eq, Bool.or_eq_true, Bool.not_eq_true', decide_eq_true_eq, Bool.and_eq_false_iff, decide_eq_false_iff_not] at h
  obtain ⟨⟨⟨h1, h2⟩, h3⟩, h4⟩ := h
  refine ⟨h1, ?_, ?_, ?_⟩
  · rw [← h2]; simp
  · intro hb; rw [hb] at h3; simpa using h3
  · intro hw he; rcases h4 with h4 | h4
    · exact h4 hw
    · exact h4 he
theorem row_of {cs : List Cell} {k : Nat} (hk : k < cs.length) (h1 : cs[k].ok = true) (h2 : cs[k].width = 0 ↔ behindAt cs k = true) (h3 : behindAt cs k = true → cs[k].pen = (cAt cs (k - 1)).pen) (h4 : cs[k].width = 2 → k + 1 ≠ cs.length) : rowAt cs k = true := by
  rw [rowAt, cAt_eq hk]
  simp only [Bool.and_eq_true, beq_iff_eq, Bool.or_eq_true, Bool.not_eq_true', decide_eq_true_eq, Bool.and_eq_false_iff, decide_eq_false_iff_not]
  refine ⟨⟨⟨h1, ?_⟩, ?_⟩, ?_⟩
  · rw [Bool.eq_iff_iff]; simpa using h2
  · cases hb : behindAt cs k
    · exact .inl rfl
    · exact .inr (h3 hb)
  · by_cases hw : cs[k].width = 2
    · exact .inr (h4 hw)
    · exact .inl hw
theorem behind_succ {cs : List Cell} {k : Nat} (hk : k < cs.length) : behindAt cs (k + 1) = decide (cs[k].width = 2) := by rw [behindAt, cAt_eq hk]

/-- A row is as it is after fixing. -/
theorem fix_row {cs : List Cell} (h : rowOk cs = true) : fixL cs = cs := by
  have key : ∀ k, k < cs.length → (fixL cs)[k]? = cs[k]? := by
    intro k
    induction k with
    | zero =>
      intro hk
      obtain ⟨h1, h2, h3, h4⟩ := row_parts hk (rowOk_at h hk)
      rw [fixL_step' hk, List.getElem?_eq_getElem hk]
      have hn : ¬ cs[0].width = 0 := fun e => by have := h2.1 e; simp [behindAt] at this
      simp only [fixStep, hn, if_false, if_true]
      by_cases hw : cs[0].width = 2
      · have hk1 : 0 + 1 < cs.length := by have := h4 hw; omega
        have h5 := (row_parts hk1 (rowOk_at h hk1)).2.1.2 (by rw [behind_succ hk]; simp [hw])
        simp [hw, List.getElem?_eq_getElem hk1, h5]
      · simp [hw]
    | succ k ih =>
      intro hk
      have hk0 : k < cs.length := by omega
      obtain ⟨h1, h2, h3, h4⟩ := row_parts hk (rowOk_at h hk)
      rw [fixL_step' hk, List.getElem?_eq_getElem hk, if_neg (by omega), Nat.add_sub_cancel, ih hk0, List.getElem?_eq_getElem hk0]
      congr 1
      by_cases h0 : cs[k + 1].width = 0
      · have hb := h2.1 h0
        have hp := h3 hb
        rw [behind_succ hk0] at hb
        simp only [decide_eq_true_eq] at hb
        rw [Nat.add_sub_cancel, cAt_eq hk0] at hp
        simp only [fixStep, h0, if_true, Option.any_some, hb, decide_true, Option.getD_some]
        rw [← hp]
        exact (ok_zero h1 h0).symm
      · by_cases hw : cs[k + 1].width = 2
        · have hk1 : k + 1 + 1 < cs.length := by have := h4 hw; omega
          have h5 := (row_parts hk1 (rowOk_at h hk1)).2.1.2 (by rw [behind_succ hk]; simp [hw])
          simp [fixStep, hw, List.getElem?_eq_getElem hk1, h5]
        · simp [fixStep, h0, hw]
  exact same_lists (fixL_length cs) fun k hk => key k (by rw [fixL_length] at hk; exact hk)

theorem fixStep_two {p n : Option Cell} {c : Cell} (h : (fixStep p c n).width = 2) : c.width = 2 ∧ fixStep p c n = c ∧ n.any (fun d => decide (d.width = 0)) = true := by
  unfold fixStep at h ⊢
  by_cases h0 : c.width = 0
  · simp only [h0, if_true] at h
    split at h <;> simp [spacer, blank] at h
  · by_cases h2 : c.width = 2
    · simp only [h2] at h ⊢
      by_cases hn : n.any (fun d => decide (d.width = 0)) = true
      · simp [hn]
      · simp [hn, blank] at h
    · simp [h0, h2] at h
theorem fixStep_zero {p n : Option Cell} {c : Cell} (h : (fixStep p c n).width = 0) : c.width = 0 ∧ p.any (fun d => decide (d.width = 2)) = true ∧ fixStep p c n = spacer (p.getD cell0).pen := by
  unfold fixStep at h ⊢
  by_cases h0 : c.width = 0
  · simp only [h0, if_true] at h ⊢
    by_cases hp : p.any (fun d => decide (d.width = 2)) = true
    · simp [hp]
    · simp [hp, blank] at h
  · by_cases h2 : c.width = 2
    · rw [if_neg h0, if_pos h2] at h
      split at h
      · exact absurd h h0
      · simp [blank] at h
    · rw [if_neg h0, if_neg h2] at h; exact absurd h h0
theorem fixAt {cs : List Cell} {k : Nat} (h : k < cs.length) : ∃ h' : k < (fixL cs).length, (fixL cs)[k] = fixStep (if k = 0 then none else (fixL cs)[k - 1]?) cs[k] cs[k + 1]? := by
  have h' : k < (fixL cs).length := by rw [fixL_length]; exact h
  exact ⟨h', fixL_get cs k h h'⟩

/-- Fixing fixed cells changes nothing. -/
theorem fix_fix (cs : List Cell) : fixL (fixL cs) = fixL cs := by
  have go : ∀ k, k < cs.length → ((if k = 0 then none else (fixL (fixL cs))[k - 1]?) = (if k = 0 then none else (fixL cs)[k - 1]?)) → (fixL (fixL cs))[k]? = (fixL cs)[k]? := by
    intro k hk hp
    obtain ⟨h', he⟩ := fixAt hk
    rw [fixL_step' h', List.getElem?_eq_getElem h', hp]
    congr 1
    by_cases h0 : (fixL cs)[k].width = 0
    · have h0' := h0
      rw [he] at h0'
      obtain ⟨_, h2, h3⟩ := fixStep_zero h0'
      rw [show fixStep (if k = 0 then none else (fixL cs)[k - 1]?) (fixL cs)[k] (fixL cs)[k + 1]? = spacer ((if k = 0 then none else (fixL cs)[k - 1]?).getD cell0).pen by
        rw [fixStep, if_pos h0, if_pos h2]]
      rw [he, h3]
    · by_cases hw : (fixL cs)[k].width = 2
      · have hw' := hw
        rw [he] at hw'
        obtain ⟨h1, h2, h3⟩ := fixStep_two hw'
        have hk1 : k + 1 < cs.length := by
          rcases Nat.lt_or_ge (k + 1) cs.length with h | h
          · exact h
          · rw [List.getElem?_eq_none h] at h3; simp at h3
        obtain ⟨h1', he1⟩ := fixAt hk1
        have hz : (fixL cs)[k + 1].width = 0 := by
          rw [List.getElem?_eq_getElem hk1] at h3
          simp only [Option.any_some, decide_eq_true_eq] at h3
          rw [he1, if_neg (by omega), Nat.add_sub_cancel, List.getElem?_eq_getElem h']
          simp [fixStep, h3, hw, spacer]
        rw [fixStep, if_neg h0, if_pos hw, if_pos (by simp [List.getElem?_eq_getElem h1', hz])]
      · rw [fixStep, if_neg h0, if_neg hw]
  have key : ∀ k, k < cs.length → (fixL (fixL cs))[k]? = (fixL cs)[k]? := by
    intro k
    induction k with
    | zero => intro hk; exact go 0 hk rfl
    | succ k ih =>
      intro hk
      apply go (k + 1) hk
      simp only [Nat.add_one_ne_zero, if_false, Nat.add_sub_cancel]
      exact ih (by omega)
  exact same_lists (by simp [fixL_length]) fun k hk => key k (by simpa [fixL_length] using hk)

/-- Fixed cells, all of which are valid before, are a row. -/
theorem fix_valid {cs : List Cell} (h : ∀ c ∈ cs, c.ok = true) : rowOk (fixL cs) = true := by
  have hno : ∀ k, k + 1 < cs.length → ∀ hk : k < (fixL cs).length, (fixL cs)[k].width = 2 → ∀ hk1 : k + 1 < cs.length, cs[k + 1].width = 0 := by
    intro k hk hk' hw hk1
    obtain ⟨_, he⟩ := fixAt (cs := cs) (k := k) (by omega)
    rw [he] at hw
    obtain ⟨h1, h2, h3⟩ := fixStep_two hw
    rw [List.getElem?_eq_getElem hk1] at h3
    simpa using h3
  have hok : ∀ k (hk : k < (fixL cs).length), (fixL cs)[k].ok = true ∧ ((fixL cs)[k].width = 2 → k + 1 ≠ (fixL cs).length) ∧ ((fixL cs)[k].width = 0 ↔ behindAt (fixL cs) k = true) ∧ (behindAt (fixL cs) k = true → (fixL cs)[k].pen = (cAt (fixL cs) (k - 1)).pen) := by
    intro k
    induction k with
    | zero =>
      intro hk'
      have hk : 0 < cs.length := by rw [fixL_length] at hk'; exact hk'
      obtain ⟨_, he⟩ := fixAt hk
      have ho := h cs[0] (List.getElem_mem hk)
      simp only [if_true] at he
      refine ⟨?_, ?_, ?_, ?_⟩
      · rw [he, fixStep]
        by_cases h0 : cs[0].width = 0
        · simp [h0, ok_blank, ok_pen ho]
        · rw [if_neg h0]
          by_cases h2 : cs[0].width = 2
          · rw [if_pos h2]; split
            · exact ho
            · rw [ok_blank]; exact ok_pen ho
          · rw [if_neg h2]; exact ho
      · intro hw he2
        rw [he] at hw
        have h3 := (fixStep_two hw).2.2
        rw [fixL_length] at he2
        rw [List.getElem?_eq_none (by omega)] at h3
        simp at h3
      · refine ⟨fun hw => ?_, fun hb => by simp [behindAt] at hb⟩
        rw [he] at hw
        have := (fixStep_zero hw).2.1
        simp at this
      · intro hb; simp [behindAt] at hb
    | succ k ih =>
      intro hk'
      have hk : k + 1 < cs.length := by rw [fixL_length] at hk'; exact hk'
      have hk0 : k < (fixL cs).length := by omega
      obtain ⟨i1, i2, i3, i4⟩ := ih hk0
      obtain ⟨_, he⟩ := fixAt hk
      have ho := h cs[k + 1] (List.getElem_mem hk)
      rw [if_neg (by omega), Nat.add_sub_cancel, List.getElem?_eq_getElem hk0] at he
      have hbe := behind_succ hk0
      refine ⟨?_, ?_, ?_, ?_⟩
      · rw [he, fixStep]
        by_cases h0 : cs[k + 1].width = 0
        · rw [if_pos h0]; split
          · exact ok_spacer (ok_pen i1)
          · rw [ok_blank]; exact ok_pen ho
        · rw [if_neg h0]
          by_cases h2 : cs[k + 1].width = 2
          · rw [if_pos h2]; split
            · exact ho
            · rw [ok_blank]; exact ok_pen ho
          · rw [if_neg h2]; exact ho
      · intro hw he2
        rw [he] at hw
        have h3 := (fixStep_two hw).2.2
        rw [fixL_length] at he2
        rw [List.getElem?_eq_none (by omega)] at h3
        simp at h3
      · rw [hbe]
        refine ⟨fun hw => ?_, fun hb => ?_⟩
        · rw [he] at hw
          simpa using (fixStep_zero hw).2.1
        · have hb' : (fixL cs)[k].width = 2 := by simpa using hb
          have h0 := hno k hk hk0 hb' hk
          rw [he]
          simp [fixStep, h0, hb', spacer]
      · rw [hbe]
        intro hb
        have hb' : (fixL cs)[k].width = 2 := by simpa using hb
        have h0 := hno k hk hk0 hb' hk
        rw [he, Nat.add_sub_cancel, cAt_eq hk0]
        simp [fixStep, h0, hb', spacer]
  refine rowOk_yes fun k hk => ?_
  obtain ⟨h1, h2, h3, h4⟩ := hok k hk
  exact row_of hk h1 h3 h4 h2

/-- Rows behind one another are a row. -/
theorem row_append {a b : List Cell} (ha : rowOk a = true) (hb : rowOk b = true) : rowOk (a ++ b) = true := by
  have hc1 : ∀ k, k < a.length → cAt (a ++ b) k = cAt a k := fun k hk => by simp [cAt, List.getElem?_append_left hk]
  have hc2 : ∀ k, cAt (a ++ b) (a.length + k) = cAt b k := fun k => by simp [cAt, List.getElem?_append_right]
  refine rowOk_yes fun k hk => ?_
  rcases Nat.lt_or_ge k a.length with h | h
  · obtain ⟨h1, h2, h3, h4⟩ := row_parts h (rowOk_at ha h)
    have hbe : behindAt (a ++ b) k = behindAt a k := by
      cases k with
      | zero => rfl
      | succ k => rw [behindAt, behindAt, hc1 k (by omega)]
    have he : (a ++ b)[k] = a[k] := List.getElem_append_left h
    refine row_of hk (by rw [he]; exact h1) (by rw [he, hbe]; exact h2) (by rw [he, hbe, hc1 (k - 1) (by omega)]; exact h3) ?_
    rw [he]
    intro hw
    have := h4 hw
    simp; omega
  · obtain ⟨j, rfl⟩ := Nat.exists_eq_add_of_le h
    have hj : j < b.length := by simpa using hk
    obtain ⟨h1, h2, h3, h4⟩ := row_parts hj (rowOk_at hb hj)
    have he : (a ++ b)[a.length + j] = b[j] := by simp [List.getElem_append_right]
    have hbe : behindAt (a ++ b) (a.length + j) = behindAt b j := by
      cases j with
      | zero =>
        rcases Nat.eq_zero_or_pos a.length with h0 | h0
        · have : a = [] := List.eq_nil_of_length_eq_zero h0
          subst this; rfl
        · obtain ⟨n, hn⟩ : ∃ n, a.length = n + 1 := ⟨a.length - 1, by omega⟩
          have hna : n < a.length := by omega
          have hp := (row_parts hna (rowOk_at ha hna)).2.2.2
          have : ¬ a[n].width = 2 := fun hw => hp hw (by omega)
          have h1 : behindAt (a ++ b) (n + 1) = false := by rw [behindAt, hc1 n hna, cAt_eq hna]; simp [this]
          rw [hn]; exact h1
      | succ j => rw [show a.length + (j + 1) = (a.length + j) + 1 by omega, behindAt, behindAt, hc2]
    refine row_of hk (by rw [he]; exact h1) (by rw [he, hbe]; exact h2) ?_ ?_
    · rw [he, hbe]
      intro hbb
      cases j with
      | zero => simp [behindAt] at hbb
      | succ j => rw [show a.length + (j + 1) - 1 = a.length + j by omega, hc2]; exact h3 hbb
    · rw [he]
      intro hw
      have := h4 hw
      simp; omega

theorem enc_pos (r : Int) : 0 < (Utf8.encode r).size := by
  unfold Utf8.encode
  simp only
  generalize (if Utf8.valid r = true then r.toNat else Utf8.runeError) = c
  split
  · exact Nat.le_of_ble_eq_true rfl
  · split
    · exact Nat.le_of_ble_eq_true rfl
    · split <;> exact Nat.le_of_ble_eq_true rfl
/-- Marking keeps a cell valid, adds one mark, and lengthens its text. -/
theorem mark_holds {c x : Cell} {m : Int} (hc : c.ok = true) (h : markOf c m = (x, 0)) : x.ok = true ∧ x.nMarks = c.nMarks + 1 ∧ c.nMarks < 3 ∧ c.text.size < x.text.size := by
  have hm0 : ¬ (c.ok = false ∨ ¬ wOf m = 0) := fun hh => by simp [markOf, hh] at h
  have hwm : wOf m = 0 := by by_cases hh : wOf m = 0; exact hh; exact absurd (.inr hh) hm0
  have hr : ¬ c.rune = 0 := fun hh => by simp [markOf, hm0, hh] at h
  have hm : ¬ m = 0 := fun hh => by rw [hh, wOf_zero] at hwm; omega
  have hep := enc_pos m
  have ho := hc
  rw [Cell.ok, if_neg hr] at ho
  simp only [Bool.and_eq_true, decide_eq_true_eq] at ho
  obtain ⟨hp, hmk, hw, hwo⟩ := ho
  simp only [Cell.marksOk, Cell.mOk, Bool.and_eq_true, Bool.or_eq_true, decide_eq_true_eq, Bool.not_eq_true', decide_eq_false_iff_not] at hmk
  obtain ⟨⟨k0, k1⟩, k2⟩ := hmk
  rw [markOf, if_neg hm0, if_neg hr] at h
  by_cases z0 : c.m0 = 0
  · rw [if_pos z0] at h
    obtain rfl := (Prod.mk.inj h).1
    have z1 : c.m1 = 0 := by rcases k1 with h | h; exact h; exact absurd z0 h.2
    have z2 : c.m2 = 0 := by rcases k2 with h | h; exact h; exact absurd z1 h.2
    refine ⟨?_, by simp [Cell.nMarks, z0, z1, hm], by simp [Cell.nMarks, z0], ?_⟩
    · simp [Cell.ok, hr, hp, Cell.marksOk, Cell.mOk, hwm, z1, z2, hw, ← hwo]
    · have : ¬ c.width = 0 := by omega
      simp only [Cell.text, this, if_false, hr, addM, z0, z1, z2, hm, if_true, ByteArray.size_append]
      omega
  · rw [if_neg z0] at h
    by_cases z1 : c.m1 = 0
    · rw [if_pos z1] at h
      obtain rfl := (Prod.mk.inj h).1
      have z2 : c.m2 = 0 := by rcases k2 with h | h; exact h; exact absurd z1 h.2
      refine ⟨?_, by simp [Cell.nMarks, z0, z1, z2, hm], by simp [Cell.nMarks, z0, z1], ?_⟩
      · have : wOf c.m0 = 0 := by rcases k0 with h | h; exact absurd h z0; exact h
        simp [Cell.ok, hr, hp, Cell.marksOk, Cell.mOk, hwm, z0, z2, hw, ← hwo, this]
      · have : ¬ c.width = 0 := by omega
        simp only [Cell.text, this, if_false, hr, addM, z0, z1, z2, hm, if_true, ByteArray.size_append]
        omega
    · rw [if_neg z1] at h
      by_cases z2 : c.m2 = 0
      · rw [if_pos z2] at h
        obtain rfl := (Prod.mk.inj h).1
        refine ⟨?_, by simp [Cell.nMarks, z0, z1, z2, hm], by simp [Cell.nMarks, z0, z1, z2], ?_⟩
        · have w0 : wOf c.m0 = 0 := by rcases k0 with h | h; exact absurd h z0; exact h
          have w1 : wOf c.m1 = 0 := by rcases k1 with h | h; exact absurd h z1; exact h.1
          simp [Cell.ok, hr, hp, Cell.marksOk, Cell.mOk, hwm, z0, z1, hw, ← hwo, w0, w1]
        · have : ¬ c.width = 0 := by omega
          simp only [Cell.text, this, if_false, hr, addM, z0, z1, z2, hm, if_true, ByteArray.size_append]
          omega
      · rw [if_neg z2] at h
        have := (Prod.mk.inj h).2
        omega
end Go.Proofs.YtmfhepjmmpnkaaaDoor
