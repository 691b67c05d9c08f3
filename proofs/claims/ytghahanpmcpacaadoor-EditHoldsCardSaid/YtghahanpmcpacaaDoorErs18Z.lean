/-
  EditHolds: the plain laws of inserting and deleting.
-/
import Derived.Test.YtghahanpmcpacaaDoorM5
set_option linter.unusedSimpArgs false
set_option linter.unusedVariables false
namespace Go.Proofs.YtghahanpmcpacaaDoor
open Go.RowKit

theorem w2_put {cs : List Cell} {x : Cell} {j : Nat} (h : W2 cs) (hj : j < cs.length) (hx : x.ok = true) (h0 : ¬ x.width = 0) (hw : (j : Int) + x.width ≤ cs.length) : W2 (putC j x cs) := by
  obtain ⟨b, hb⟩ : ∃ b, b = brk (j + x.width.toNat) (brk j cs) := ⟨_, rfl⟩
  have hbl : b.length = cs.length := by rw [hb, brk_length, brk_length]
  have hbw : W2 b := by rw [hb]; exact (h.brk j).brk _
  have hbj : 1 ≤ j → ¬ (cAt b (j - 1)).width = 2 := fun h1 => by
    have h2 := brk_before (cs := cs) h1 hj
    rw [hb, cAt_brk]
    split
    · simp [blank]
    · exact h2
  have hg : ∀ i, cAt (putC j x cs) i = if x.width = 2 ∧ i = j + 1 ∧ j + 1 < cs.length then spacer x.pen else if i = j then x else cAt b i := fun i => by
    unfold putC
    simp only [← hb]
    by_cases h2 : x.width = 2
    · rw [if_pos h2, cAt_set, cAt_set, List.length_set, hbl]; grind
    · rw [if_neg h2, cAt_set, hbl]; grind
  intro i hi h1 h2
  rw [putC_length] at hi
  rw [hg] at h1 h2
  by_cases hx2 : x.width = 2
  · have hjl : j + 1 < cs.length := by omega
    by_cases e1 : i = j + 1
    · rw [if_pos ⟨hx2, e1, hjl⟩] at h1; simp [spacer] at h1
    by_cases e2 : i = j
    · rw [if_pos ⟨hx2, by omega, hjl⟩] at h2; simp [spacer] at h2
    rw [if_neg (by omega), if_neg e2] at h1
    by_cases e3 : i + 1 = j
    · have := hbj (by omega); rw [show j - 1 = i by omega] at this; exact this h1
    rw [if_neg (by omega), if_neg e3] at h2
    exact hbw i (by omega) h1 h2
  · rw [if_neg (fun h => hx2 h.1)] at h1 h2
    by_cases e2 : i = j
    · rw [if_pos e2] at h1; exact hx2 h1
    rw [if_neg e2] at h1
    by_cases e3 : i + 1 = j
    · have := hbj (by omega); rw [show j - 1 = i by omega] at this; exact this h1
    rw [if_neg e3] at h2
    exact hbw i (by omega) h1 h2
def AllW2 (L : List Ln) : Prop := ∀ l ∈ L, W2 l.1
theorem AllW2.lnMod {L : List Ln} (h : AllW2 L) (i : Nat) {F : Ln → Ln} (hF : ∀ l : Ln, l ∈ L → W2 (F l).1) : AllW2 (lnMod i F L) := by
  unfold Proofs.YtghahanpmcpacaaDoor.lnMod
  split
  · rename_i l hl
    intro x hx
    rcases List.mem_or_eq_of_mem_set hx with h1 | rfl
    · exact h x h1
    · exact hF l (List.mem_of_getElem? hl)
  · exact h
theorem begCells_w2 {cols lim : Nat} {fill : List Cell} {row : Nat} (fuel n col : Nat) {L : List Ln} (hR : Rect cols L) (h : AllW2 L) : AllW2 (begCells cols lim fill row fuel n col L).2 := by
  induction fuel generalizing n col L with
  | zero => exact h
  | succ f ih =>
    unfold begCells
    split
    · rename_i hc
      split
      · exact ih _ _ hR h
      · rename_i hy
        refine ih _ _ (hR.rowMod row (f := putC col (cAt fill (n % fill.length))) (fun cs h => by rw [putC_length, h])) ?_
        rw [rowMod_is]
        refine h.lnMod row fun l hl => ?_
        have hl2 := hR l hl
        refine w2_put (h l hl) (by omega) ?_ ?_ ?_
        · cases ho : (cAt fill (n % fill.length)).ok with
          | true => rfl
          | false => exact absurd (.inl (by rw [ho]; simp)) hy
        · exact fun e => hy (.inr (.inl e))
        · rw [hl2]; exact Int.not_lt.1 fun e => hy (.inr (.inr e))
    · exact h
theorem begRows_w2 {rows cols lim : Nat} {fill : List Cell} {soft : Int} (k n : Nat) {L : List Ln} (hR : Rect cols L) (h : AllW2 L) : AllW2 (begRows rows cols lim fill soft k n L) := by
  induction k generalizing n L with
  | zero => exact h
  | succ k ih =>
    unfold begRows
    have h1 := begCells_rect (cols := cols) (lim := lim) (fill := fill) (row := rows - (k + 1)) (lim - n) n 0 hR
    have h2 := begCells_w2 (cols := cols) (lim := lim) (fill := fill) (row := rows - (k + 1)) (lim - n) n 0 hR h
    refine ih _ (h1.1.softMod (rows - (k + 1)) (softB soft (rows - (k + 1)))) ?_
    rw [softMod_is]
    exact h2.lnMod _ fun l hl => h2 l hl
theorem begunP_w2 (rows cols : Nat) (fill : List Cell) (soft : Int) : AllW2 (begunP rows cols fill soft) :=
  begRows_w2 rows 0 (rect_new rows cols pen0) fun l hl => by
    rw [(List.mem_replicate.1 hl).2]
    intro i hi h1
    simp only [List.length_replicate] at hi
    rw [cAt_eq (by simp; omega)] at h1
    simp [blank] at h1
theorem lnMod_congr {i : Nat} {F G : Ln → Ln} {L : List Ln} (h : ∀ l, L[i]? = some l → F l = G l) : lnMod i F L = lnMod i G L := by
  unfold lnMod
  split
  · next l hl => rw [h l hl]
  · rfl
section
variable {y j s : Nat} {a b : Nat} {q : Pen} {L : List Ln}
theorem ins_two (hR : Rect s L) (hj : j < s) : rowMod y (shiftN j s (b : Int) q) (rowMod y (shiftN j s (a : Int) q) L) = rowMod y (shiftN j s ((a + b : Nat) : Int) q) L := by
  rw [rowMod_is, rowMod_is, rowMod_is, lnMod_lnMod]
  exact lnMod_congr fun l hl => by rw [shiftN_ins (hR.at_ hl) hj]
theorem delC_pos (h : 0 < a) : delC y j s (a : Int) q L = lnMod y (fun l => (shiftN j s (-(a : Int)) q l.1, false)) L := by
  unfold delC
  rw [if_neg (by omega), softMod_is, rowMod_is, lnMod_lnMod]
theorem delC_none : delC y j s ((0 : Nat) : Int) q L = L := if_pos rfl
theorem del_two (hR : Rect s L) (hw : AllW2 L) (hj : j < s) : delC y j s (b : Int) q (delC y j s (a : Int) q L) = delC y j s ((a + b : Nat) : Int) q L := by
  by_cases ha : a = 0
  · subst ha; rw [delC_none, Nat.zero_add]
  by_cases hb : b = 0
  · subst hb; rw [delC_none, Nat.add_zero]
  rw [delC_pos (by omega), delC_pos (by omega), delC_pos (by omega), lnMod_lnMod]
  exact lnMod_congr fun l hl => by rw [shiftN_del (hw l (List.mem_of_getElem? hl)) (hR.at_ hl) hj]
variable {top bot : Int}
theorem rollIf_up2 (hb : bot < L.length) : rollIf y top bot (b : Int) q s (rollIf y top bot (a : Int) q s L) = rollIf y top bot ((a + b : Nat) : Int) q s L := by
  unfold rollIf
  by_cases h : top ≤ y ∧ (y : Int) ≤ bot
  · rw [if_pos h, if_pos h, if_pos h]; exact rollL_up (by omega) (by omega)
  · rw [if_neg h, if_neg h, if_neg h]
theorem rollIf_dn2 (hb : bot < L.length) : rollIf y top bot (-(b : Int)) q s (rollIf y top bot (-(a : Int)) q s L) = rollIf y top bot (-((a + b : Nat) : Int)) q s L := by
  unfold rollIf
  by_cases h : top ≤ y ∧ (y : Int) ≤ bot
  · rw [if_pos h, if_pos h, if_pos h]; exact rollL_down (by omega) (by omega)
  · rw [if_neg h, if_neg h, if_neg h]
variable {wh : Int} {pend : Bool}
/-- Two numbers, one after the other, are both together. -/
theorem act18_two (hR : Rect s L) (hw : AllW2 L) (hj : j < s) (hb : wh = 0 ∨ wh = 1 ∨ bot < L.length) : act18L ⟨wh, (b : Int), y, j, pend, top, bot, q⟩ s (act18L ⟨wh, (a : Int), y, j, pend, top, bot, q⟩ s L) = act18L ⟨wh, (a : Int) + (b : Int), y, j, pend, top, bot, q⟩ s L := by
  have e : (a : Int) + (b : Int) = ((a + b : Nat) : Int) := by omega
  rw [e]
  unfold act18L
  simp only [Int.toNat_natCast]
  by_cases h0 : wh = 0
  · rw [if_pos h0, if_pos h0, if_pos h0]; exact ins_two hR hj
  rw [if_neg h0, if_neg h0, if_neg h0]
  by_cases h1 : wh = 1
  · rw [if_pos h1, if_pos h1, if_pos h1]; exact del_two hR hw hj
  rw [if_neg h1, if_neg h1, if_neg h1]
  have hb2 : bot < L.length := by rcases hb with h | h | h <;> first | exact h | omega
  by_cases h2 : wh = 2
  · rw [if_pos h2, if_pos h2, if_pos h2]; exact rollIf_dn2 hb2
  · rw [if_neg h2, if_neg h2, if_neg h2]; exact rollIf_up2 hb2
theorem hardIf_fst (p : Prop) [Decidable p] (l : Ln) : (hardIf p l).1 = l.1 := by unfold hardIf; split <;> rfl
/-- The rows that a roll leaves alone. -/
theorem rollIf_keep {n : Int} (hb : bot < L.length) {r : Nat} {l0 : Ln} (hl : L[r]? = some l0) (hr : ¬ (top ≤ y ∧ y ≤ r ∧ (r : Int) ≤ bot)) : ∃ l1, (rollIf y top bot n q s L)[r]? = some l1 ∧ l1.1 = l0.1 := by
  unfold rollIf
  by_cases h : top ≤ y ∧ (y : Int) ≤ bot
  · rw [if_pos h, rollL_get (by omega) (by omega)]
    by_cases hn : n = 0
    · unfold rollAt; rw [if_pos hn]; exact ⟨l0, hl, rfl⟩
    · rw [rollAt_out hn (by omega), hl]; exact ⟨_, rfl, hardIf_fst _ _⟩
  · rw [if_neg h]; exact ⟨l0, hl, rfl⟩
/-- Rows and cells that a call leaves alone. -/
theorem act18_keepRow {n : Int} (hb : wh = 0 ∨ wh = 1 ∨ bot < L.length) {r : Nat} {l0 : Ln} (hl : L[r]? = some l0) (hr : (wh = 0 ∨ wh = 1) ∧ ¬ r = y ∨ ¬ (wh = 0 ∨ wh = 1) ∧ ¬ (top ≤ y ∧ y ≤ r ∧ (r : Int) ≤ bot)) : ∃ l1, (act18L ⟨wh, n, y, j, pend, top, bot, q⟩ s L)[r]? = some l1 ∧ l1.1 = l0.1 := by
  unfold act18L
  simp only [Int.toNat_natCast]
  by_cases h0 : wh = 0
  · rw [if_pos h0, rowMod_is, lnMod_get, hl]
    refine ⟨l0, ?_, rfl⟩
    simp; omega
  rw [if_neg h0]
  by_cases h1 : wh = 1
  · rw [if_pos h1]
    unfold delC
    split
    · exact ⟨l0, hl, rfl⟩
    · rw [softMod_is, rowMod_is, lnMod_lnMod, lnMod_get, hl]
      refine ⟨l0, ?_, rfl⟩
      simp; omega
  rw [if_neg h1]
  have hb2 : bot < L.length := by rcases hb with h | h | h <;> first | exact h | omega
  have hr2 : ¬ (top ≤ y ∧ y ≤ r ∧ (r : Int) ≤ bot) := by rcases hr with h | h; (exact absurd h.1 (by omega)); exact h.2
  split
  · exact rollIf_keep hb2 hl hr2
  · exact rollIf_keep hb2 hl hr2
theorem act18_keepCell {n : Int} (hR : Rect s L) (hj : j < s) (hw : wh = 0 ∨ wh = 1) {l0 : Ln} (hl : L[y]? = some l0) {i : Nat} (hi : i + 1 < j) : ∃ l1, (act18L ⟨wh, n, y, j, pend, top, bot, q⟩ s L)[y]? = some l1 ∧ cAt l1.1 i = cAt l0.1 i := by
  unfold act18L
  simp only [Int.toNat_natCast]
  by_cases h0 : wh = 0
  · rw [if_pos h0, rowMod_is, lnMod_get, hl]
    exact ⟨_, rfl, by simp only [if_true]; exact shiftN_far n (hR.at_ hl) hj hi⟩
  · have h1 : wh = 1 := by omega
    rw [if_neg h0, if_pos h1]
    unfold delC
    split
    · exact ⟨l0, hl, rfl⟩
    · rw [softMod_is, rowMod_is, lnMod_lnMod, lnMod_get, hl]
      exact ⟨_, rfl, by simp only [if_true]; exact shiftN_far _ (hR.at_ hl) hj hi⟩
/-- Deleting as many as were inserted. -/
theorem act18_back0 (hR : Rect s L) (hj : j < s) {r : Nat} {l0 : Ln} (hl : L[r]? = some l0) {i : Nat} (hi : i < s) : ∃ l3, (act18L ⟨1, (a : Int), y, j, pend, top, bot, q⟩ s (act18L ⟨0, (a : Int), y, j, pend, top, bot, q⟩ s L))[r]? = some l3 ∧
    (cAt l3.1 i = cAt l0.1 i ∨ (cAt l3.1 i).rune = 0) ∧ (¬ (r = y ∧ (s : Int) - a - 1 ≤ i) → ¬ (r = y ∧ (i = j ∨ i + 1 = j)) → cAt l3.1 i = cAt l0.1 i) := by
  unfold act18L
  simp only [Int.toNat_natCast, if_true, show ¬ ((1 : Int) = 0) by omega, if_false]
  by_cases ha : a = 0
  · subst ha
    rw [delC_none, show rowMod y (shiftN j s ((0 : Nat) : Int) q) L = L from rowMod_same fun cs => if_pos rfl]
    exact ⟨l0, hl, .inl rfl, fun _ _ => rfl⟩
  rw [delC_pos (by omega), rowMod_is, lnMod_lnMod, lnMod_get, hl]
  by_cases hr : r = y
  · subst hr
    have h := shiftN_back (a := a) (q := q) (hR.at_ hl) hj hi
    refine ⟨_, rfl, ?_, fun h1 h2 => ?_⟩
    · simp only [if_true]; exact h.1
    · simp only [if_true]; exact h.2 (fun e => h1 ⟨rfl, e⟩) (fun e => h2 ⟨rfl, e⟩)
  · refine ⟨l0, by simp [hr], .inl rfl, fun _ _ => rfl⟩
theorem freshLn_rune (cols : Nat) (q : Pen) {i : Nat} (hi : i < cols) : (cAt (freshLn cols q).1 i).rune = 0 := by
  rw [cAt_eq (by simp [freshLn]; exact hi)]; simp [freshLn, blank]
theorem rollAt_zero {t b : Nat} {n : Int} {q : Pen} {c : Nat} {L : List Ln} {r : Nat} (hn : n = 0) : rollAt t b n q c L r = L[r]? := by unfold rollAt; rw [if_pos hn]
theorem act18_back2 (hb : bot < L.length) {r : Nat} {l0 : Ln} (hl : L[r]? = some l0) {i : Nat} (hi : i < s) : ∃ l3, (act18L ⟨3, (a : Int), y, j, pend, top, bot, q⟩ s (act18L ⟨2, (a : Int), y, j, pend, top, bot, q⟩ s L))[r]? = some l3 ∧
    (cAt l3.1 i = cAt l0.1 i ∨ (cAt l3.1 i).rune = 0) ∧ (¬ (bot - a < r ∧ (r : Int) ≤ bot) → cAt l3.1 i = cAt l0.1 i) := by
  unfold act18L
  simp only [Int.toNat_natCast, if_true, show ¬ ((3 : Int) = 0) by omega, show ¬ ((3 : Int) = 1) by omega, show ¬ ((3 : Int) = 2) by omega, show ¬ ((2 : Int) = 0) by omega, show ¬ ((2 : Int) = 1) by omega, if_false]
  unfold rollIf
  by_cases h : top ≤ y ∧ (y : Int) ≤ bot
  case neg => rw [if_neg h, if_neg h]; exact ⟨l0, hl, .inl rfl, fun _ => rfl⟩
  rw [if_pos h, if_pos h]
  obtain ⟨B, rfl⟩ : ∃ B : Nat, bot = B := ⟨bot.toNat, by omega⟩
  simp only [Int.toNat_natCast]
  have hyB : y ≤ B := by omega
  have hBL : B < L.length := by omega
  have hlen := rollL_length (n := -(a : Int)) (q := q) (cols := s) hyB hBL
  rw [rollL_get hyB (by rw [hlen]; exact hBL)]
  by_cases ha : a = 0
  · subst ha
    rw [rollAt_zero (n := ((0 : Nat) : Int)) rfl, rollL_get hyB hBL, rollAt_zero (n := -((0 : Nat) : Int)) rfl]
    exact ⟨l0, hl, .inl rfl, fun _ => rfl⟩
  by_cases ho : r < y ∨ B < r
  · rw [rollAt_out (by omega) ho, rollL_get hyB hBL, rollAt_out (by omega) ho, hl]
    exact ⟨_, rfl, .inl (by rw [hardIf_fst, hardIf_fst]), fun _ => by rw [hardIf_fst, hardIf_fst]⟩
  obtain ⟨K, hK⟩ : ∃ K, K = min a (B + 1 - y) := ⟨_, rfl⟩
  have hK1 : rollK (a : Int) (B + 1 - y) = K := by rw [hK]; unfold rollK; split <;> omega
  have hK2 : rollK (-(a : Int)) (B + 1 - y) = K := by rw [hK]; unfold rollK; split <;> omega
  by_cases hs : r + K ≤ B
  · rw [rollAt_up (by omega) hK1 ho hs, rollL_get hyB hBL, rollAt_dn (by omega) hK2 (by omega) (by omega), show r + K - K = r by omega, hl]
    exact ⟨_, rfl, .inl (by rw [hardIf_fst, hardIf_fst]), fun _ => by rw [hardIf_fst, hardIf_fst]⟩
  · rw [rollAt_upf (by omega) hK1 ho hs]
    exact ⟨_, rfl, .inr (freshLn_rune s q hi), fun hn => absurd ⟨by omega, by omega⟩ hn⟩
end
end Go.Proofs.YtghahanpmcpacaaDoor
