/-
  Slices of cells in memory: that one reads as a list, that the call owns one; append onto a row of the call's own.
-/
import Derived.Test.YtmfhepjmmpnkaaaDoorMark
import Derived.Below
import Derived.Laws.OwnMore
import Derived.Laws.AppendOwnNone
import Derived.Deep.AppendLies
import Derived.Maps.AppendAt
import Derived.RegionTactic
import Derived.OwnWalk
set_option linter.unusedSimpArgs false
set_option linter.unusedVariables false
namespace Go.Proofs.YtmfhepjmmpnkaaaDoor
open Go.RowKit

def flat (cs : List Cell) : List Value := cs.flatMap fun c => (cv c).toList
theorem flat_nil : flat [] = [] := rfl
theorem flat_cons (c : Cell) (cs : List Cell) : flat (c :: cs) = (cv c).toList ++ flat cs := by simp [flat]
theorem flat_append (a b : List Cell) : flat (a ++ b) = flat a ++ flat b := by simp [flat]
theorem flat_length (cs : List Cell) : (flat cs).length = cs.length * 16 := by
  induction cs with
  | nil => rfl
  | cons c cs ih => rw [flat_cons, List.length_append, ih]; simp [cv_size]; omega
theorem flat_one (cs : List Cell) : ∀ v ∈ flat cs, v.oneCell' = true := by
  intro v hv
  obtain ⟨c, _, hc⟩ := List.mem_flatMap.1 hv
  exact cv_one c v hc
theorem flat_at (cs : List Cell) (k j : Nat) (c : Cell) (h : cs[k]? = some c) (hj : j < 16) : (flat cs)[k * 16 + j]? = (cv c)[j]? := by
  induction cs generalizing k with
  | nil => simp at h
  | cons d cs ih =>
    rw [flat_cons]
    cases k with
    | zero =>
      simp at h
      subst h
      rw [List.getElem?_append_left (by simp [cv_size]; omega)]
      simp
    | succ k =>
      rw [List.getElem?_append_right (by simp [cv_size]; omega)]
      simp only [Array.length_toList, cv_size]
      rw [show (k + 1) * 16 + j - 16 = k * 16 + j by omega]
      exact ih k (by simpa using h)
theorem flat_inj {a b : List Cell} (h : flat a = flat b) : a = b := by
  induction a generalizing b with
  | nil =>
    cases b with
    | nil => rfl
    | cons d b => have := congrArg List.length h; simp [flat_length] at this
  | cons c a ih =>
    cases b with
    | nil => have := congrArg List.length h; simp [flat_length] at this
    | cons d b =>
      rw [flat_cons, flat_cons] at h
      have h1 := List.append_inj h (by simp [cv_size])
      rw [ih h1.2, cv_inj (Array.toList_inj.1 h1.1)]

/-- The slice at A reads as the list. -/
def RdC (w : World) (A : Option Addr) (c : Nat) (cs : List Cell) : Prop := cs.length ≤ c ∧ (A = none → c = 0) ∧ (0 < cs.length → ∃ b off, A = some ⟨b, off, none⟩ ∧ b < w.heap.size ∧ w.rangeAt b off (flat cs))
section
variable {w w' : World} {A : Option Addr} {c : Nat} {cs : List Cell}
theorem RdC.keep (h : RdC w A c cs) (hz : w.heap.size ≤ w'.heap.size) (hk : ∀ b i, b < w.heap.size → w'.cell? ⟨b, i, none⟩ = w.cell? ⟨b, i, none⟩) : RdC w' A c cs := ⟨h.1, h.2.1, fun hn => by
  obtain ⟨b, off, e, hb, hr⟩ := h.2.2 hn
  exact ⟨b, off, e, by omega, (rangeAt_same (fun i => hk b i hb)).2 hr⟩⟩
theorem RdC.bel (h : RdC w A c cs) (hb : Below w.heap.size w w') : RdC w' A c cs := h.keep hb.size fun b i hp => hb.cell (p := ⟨b, i, none⟩) hp
theorem RdC.alloc (h : RdC w A c cs) (o : Obj) : RdC (w.alloc o) A c cs := h.keep (by simp) fun b i hb => World.cell?_alloc_lt w o ⟨b, i, none⟩ hb
theorem RdC.nil (w : World) : RdC w none 0 [] := ⟨by simp, fun _ => rfl, fun h => by simp at h⟩
theorem RdC.empty (w : World) (ad : Addr) (c : Nat) : RdC w (some ad) c [] := ⟨by simp, (fun h => by cases h), fun h => by simp at h⟩
theorem range_elem {b off : Nat} (hr : w.rangeAt b off (flat cs)) {k : Nat} (hk : k < cs.length) : w.rangeAt b (off + k * 16) (cv cs[k]).toList := fun j v hv => by
  have hj : j < 16 := by have := (List.getElem?_eq_some_iff.1 hv).1; simpa [cv_size] using this
  have := hr (k * 16 + j) v (by rw [flat_at cs k j cs[k] (by simp [hk]) hj, ← hv]; simp)
  rw [show off + k * 16 + j = off + (k * 16 + j) by omega]; exact this
/-- What the walk asks of an element that it reads. -/
theorem RdC.at_ (h : RdC w A c cs) {k : Nat} (hk : k < cs.length) : ∃ b off, A = some ⟨b, off, none⟩ ∧ b < w.heap.size ∧ w.rangeAt b off (flat cs) := h.2.2 (by omega)
theorem elem_cell {b off : Nat} (hr : w.rangeAt b off (flat cs)) {k : Nat} (hk : k < cs.length) : cellAt w b (off + k * 16) = some cs[k] := cellAt_of (range_elem hr hk)
theorem elem_pen {b off : Nat} (hr : w.rangeAt b off (flat cs)) {k : Nat} (hk : k < cs.length) : penAt w b (off + k * 16 + 5) = some cs[k].pen := penAt_of_cell (elem_cell hr hk)
theorem elem_width {b off : Nat} (hr : w.rangeAt b off (flat cs)) {k : Nat} (hk : k < cs.length) : w.cell? ⟨b, off + k * 16 + 4, none⟩ = some (.int .i64 cs[k].width) := range_elem hr hk 4 _ (by simp)
theorem elem_rune {b off : Nat} (hr : w.rangeAt b off (flat cs)) {k : Nat} (hk : k < cs.length) : w.cell? ⟨b, off + k * 16, none⟩ = some (.int .i32 cs[k].rune) := range_elem hr hk 0 _ (by simp)
/-- A part of it, from k on. -/
theorem RdC.drop {b off : Nat} (hr : w.rangeAt b off (flat cs)) (k : Nat) : w.rangeAt b (off + k * 16) (flat (cs.drop k)) := fun j v hv => by
  rcases Nat.lt_or_ge k cs.length with hk | hk
  · have h1 : flat cs = flat (cs.take k) ++ flat (cs.drop k) := by rw [← flat_append, List.take_append_drop]
    have := hr (k * 16 + j) v (by rw [h1, List.getElem?_append_right (by rw [flat_length]; simp; omega), flat_length]; simp [Nat.min_eq_left (Nat.le_of_lt hk), hv])
    rw [show off + k * 16 + j = off + (k * 16 + j) by omega]; exact this
  · rw [List.drop_eq_nil_of_le hk] at hv; simp [flat] at hv
theorem RdC.take {b off : Nat} (hr : w.rangeAt b off (flat cs)) (k : Nat) : w.rangeAt b off (flat (cs.take k)) := fun j v hv => by
  have h1 : flat cs = flat (cs.take k) ++ flat (cs.drop k) := by rw [← flat_append, List.take_append_drop]
  have hj : j < (flat (cs.take k)).length := (List.getElem?_eq_some_iff.1 hv).1
  exact hr j v (by rw [h1, List.getElem?_append_left hj, hv])
end

/-- The call owns a slice of these cells, from block B on. -/
def OwnC (w : World) (B : Nat) (v : Value) (cs : List Cell) : Prop := w.ownsRow B 30 16 v cs.length (flat cs)
section
variable {w w' : World} {B : Nat} {v : Value} {cs : List Cell}
theorem OwnC.nil (w : World) (B : Nat) : OwnC w B (.slice none 0 0) [] := ⟨by simp [flat], .inl ⟨rfl, rfl⟩⟩
theorem OwnC.alloc (h : OwnC w B v cs) (o : Obj) : OwnC (w.alloc o) B v cs := World.ownsRow.alloc h o
theorem OwnC.kept {row : Option Nat} (h : OwnC w B v cs) (hg : w.grownBy w' row) (hne : v.ownBlock = none ∨ v.ownBlock ≠ row) : OwnC w' B v cs := World.ownsRow.kept h hg hne
theorem only_of_below {a w : World} (h : Below a.heap.size a w) (row : Option Nat) : a.grownBy w row := ⟨h.os, h.tape, h.output, h.size, fun i hi _ => h.block i hi⟩
theorem OwnC.bel (h : OwnC w B v cs) (hb : Below w.heap.size w w') : OwnC w' B v cs := by
  rcases hv : v.ownBlock with _ | g
  · exact World.ownsRow.kept h (only_of_below hb none) (.inl hv)
  · exact World.ownsRow.kept h (only_of_below hb none) (.inr (by rw [hv]; simp))
/-- The value that an owned slice has. -/
theorem OwnC.form (h : OwnC w B v cs) : ∃ A c, v = .slice A cs.length c ∧ RdC w A c cs := by
  rcases h.2 with ⟨rfl, h0⟩ | ⟨g, cap, cur, rfl, hb, hg, hnc, hm, hsz, htk⟩
  · have : cs = [] := List.eq_nil_of_length_eq_zero h0
    subst this
    exact ⟨none, 0, rfl, RdC.nil _⟩
  · refine ⟨_, cap, rfl, hnc, (fun h => by cases h), fun hn => ⟨g, 0, rfl, ?_, fun j u hu => ?_⟩⟩
    · exact (show Blk w g 30 cur from hg).lt
    · rw [Nat.zero_add, (show Blk w g 30 cur from hg).cell]
      rw [← htk, List.getElem?_take] at hu
      split at hu
      · simpa using hu
      · cases hu
/-- A slice that the walk has just built of one cell. -/
theorem OwnC.one (w : World) (c : Cell) (hB : B ≤ w.heap.size) : OwnC (w.alloc (.cells (cv c) 30)) B (.slice (some ⟨w.heap.size, 0, none⟩) 1 1) [c] :=
  ⟨by simp [flat, cv_size], .inr ⟨w.heap.size, 1, cv c, rfl, hB, heap_alloc_new w _, Nat.le_refl _, by simp [maxLen], by simp [cv_size], by simp [flat, cv_size, List.take_of_length_le]⟩⟩
end
theorem cell_info : (Tryd.prog.info? 30).map (fun i => (i.zero, i.size, i.bytes)) = some (some (.agg (cv cell0)), 16, 64) := by kernel_rfl

/-- append(v, x...) onto a slice of cells of the call's own, the source nil, empty or not. -/
theorem wpList_appC {ops : Array Oper} {rest : List Oper} {o : Oper} {a : Act} {w : World} {Q : Exit → Act → World → Prop} (hgd : o.guard = none) (s x : Operand)
    (ho : o.op = .call { callee := .builtin .append, args := #[s, x], argTypes := #[43, 43] })
    (B : Nat) (v : Value) (cs : List Cell) (hs : a.eval s = v) (hown : OwnC w B v cs)
    (A : Option Addr) (c : Nat) (ds : List Cell) (hx : a.eval x = .slice A ds.length c) (hr : RdC w A c ds)
    (hlen : cs.length + ds.length ≤ 1000000) (hbase : B ≤ w.heap.size)
    (h : ∀ v' w', OwnC w' B v' (cs ++ ds) → w.grownBy w' v.ownBlock → (v'.ownBlock = v.ownBlock ∨ v'.ownBlock = some w.heap.size) → wpList Tryd.prog ops Q rest (a.put o.dst v') w') : wpList Tryd.prog ops Q (o :: rest) a w := by
  obtain ⟨i, hi, hz0, hz1, hz2⟩ := info_parts cell_info
  obtain ⟨h1, h2, h3⟩ := hr
  cases A with
  | none =>
    obtain rfl := h2 rfl
    obtain rfl : ds = [] := List.eq_nil_of_length_eq_zero (by omega)
    refine wpList_append_own_none hgd s x 43 ho B 30 i 16 Tryd.underlying43 hi v cs.length (flat cs) hs hown hx ?_
    exact h v w (by simpa using hown) (World.grownBy.refl w _) (.inl rfl)
  | some ad =>
    refine wpList_append_own_at w hgd s x 43 ho B 30 i _ 16 64 Tryd.underlying43 hi hz0 hz1 hz2 (by simp [Value.cells, cv_size]) (by omega) v cs.length (flat cs) hs hown ad ds.length c (flat ds) hx (flat_length ds) ?_ (flat_one ds)
      (by simp only [maxLen]; omega) (by omega) hbase fun v' w' g1 g2 _ g4 => h v' w' ?_ g2 g4
    · intro j u hu
      have hj : j < ds.length * 16 := by have := (List.getElem?_eq_some_iff.1 hu).1; rwa [flat_length] at this
      obtain ⟨b, off, e, _, hr⟩ := h3 (by omega)
      cases e
      rw [add_at]; exact hr j u hu
    · unfold OwnC
      rw [flat_append, List.length_append]
      exact g1
end Go.Proofs.YtmfhepjmmpnkaaaDoor
