/-
  Part 2 of the texts on which the proofs of this seat stand: each part says ahead of it what it shows.
-/
import Derived.Test.YtjligfbaljnhnaaDoorM1
import Derived.Laws.CopyRow
import Derived.WalkLawsBesides
import Derived.WalkSpells
import Derived.Laws.Cover4
import Derived.Maps.AppendAt
import Derived.OwnWalk
import Derived.Lib.SliceRun
import Derived.WalkMore
import Derived.Laws.IdiomCopy
import Derived.Laws.MakeOwn
import Derived.Laws.BitsAllLaws
import Derived.IntWalk
import Derived.Deep.Cut
import Derived.Deep.CutRange

/-
  Fixing cells: the plain function; storing into a slice of cells of the call's own.
-/
set_option linter.unusedSimpArgs false
set_option linter.unusedVariables false
namespace Go.Proofs.YtjligfbaljnhnaaDoor
open Go.RowKit

/-- What becomes of a cell behind one (already fixed) and before another. -/
def fixStep (prev : Option Cell) (c : Cell) (next : Option Cell) : Cell :=
  if c.width = 0 then (if prev.any (fun d => decide (d.width = 2)) = true then spacer (prev.getD cell0).pen else blank c.pen)
  else if c.width = 2 then (if next.any (fun d => decide (d.width = 0)) = true then c else blank c.pen) else c
def fixGo : Option Cell → List Cell → List Cell
  | _, [] => []
  | p, c :: r => fixStep p c r.head? :: fixGo (some (fixStep p c r.head?)) r
def fixL (cs : List Cell) : List Cell := fixGo none cs
theorem fixGo_length (p : Option Cell) (cs : List Cell) : (fixGo p cs).length = cs.length := by
  induction cs generalizing p with
  | nil => rfl
  | cons c r ih => simp [fixGo, ih]
theorem fixL_length (cs : List Cell) : (fixL cs).length = cs.length := fixGo_length none cs
theorem fixGo_get (p : Option Cell) (cs : List Cell) (k : Nat) (h : k < cs.length) :
    (fixGo p cs)[k]? = some (fixStep (if k = 0 then p else (fixGo p cs)[k - 1]?) cs[k] cs[k + 1]?) := by
  induction cs generalizing p k with
  | nil => simp at h
  | cons c r ih =>
    cases k with
    | zero => simp [fixGo, List.head?_eq_getElem?]
    | succ k =>
      simp only [fixGo, List.getElem?_cons_succ, List.getElem_cons_succ, Nat.add_sub_cancel]
      rw [ih _ k (by simpa using h)]
      cases k with
      | zero => simp
      | succ k => simp
theorem fixL_get (cs : List Cell) (k : Nat) (h : k < cs.length) (h2 : k < (fixL cs).length) : (fixL cs)[k] = fixStep (if k = 0 then none else (fixL cs)[k - 1]?) cs[k] cs[k + 1]? := by
  have := fixGo_get none cs k h
  rw [show (fixGo none cs)[k]? = some (fixL cs)[k] from List.getElem?_eq_getElem h2] at this
  exact Option.some.inj this
/-- The cells before round k. -/
def fixTo (cs : List Cell) (k : Nat) : List Cell := (fixL cs).take k ++ cs.drop k
theorem fixTo_length (cs : List Cell) (k : Nat) : (fixTo cs k).length = cs.length := by simp [fixTo, fixL_length]; omega
theorem fixTo_zero (cs : List Cell) : fixTo cs 0 = cs := by simp [fixTo]
theorem fixTo_all (cs : List Cell) : fixTo cs cs.length = fixL cs := by
  simp [fixTo]; exact List.take_of_length_le (by rw [fixL_length]; omega)
theorem fixTo_get {cs : List Cell} {k : Nat} (h : k < cs.length) (j : Nat) : (fixTo cs k)[j]? = if j < k then (fixL cs)[j]? else cs[j]? := by
  have hl : ((fixL cs).take k).length = k := by simp [fixL_length]; omega
  unfold fixTo
  split
  · rename_i hj; rw [List.getElem?_append_left (by omega), List.getElem?_take_of_lt hj]
  · rename_i hj; rw [List.getElem?_append_right (by omega), hl, List.getElem?_drop]; congr 1; omega
theorem fixTo_here {cs : List Cell} {k : Nat} (h : k < cs.length) (h' : k < (fixTo cs k).length) : (fixTo cs k)[k] = cs[k] := by
  have := fixTo_get h k
  rw [List.getElem?_eq_getElem h', if_neg (show ¬ k < k by omega), List.getElem?_eq_getElem h] at this
  exact Option.some.inj this
theorem fixTo_next {cs : List Cell} {k : Nat} (h : k + 1 < cs.length) (h' : k + 1 < (fixTo cs k).length) : (fixTo cs k)[k + 1] = cs[k + 1] := by
  have := fixTo_get (cs := cs) (k := k) (by omega) (k + 1)
  rw [List.getElem?_eq_getElem h', if_neg (show ¬ k + 1 < k by omega), List.getElem?_eq_getElem h] at this
  exact Option.some.inj this
theorem fixTo_prev {cs : List Cell} {k : Nat} (h : k + 1 < cs.length) (h' : k < (fixTo cs (k + 1)).length) (h2 : k < (fixL cs).length) : (fixTo cs (k + 1))[k] = (fixL cs)[k] := by
  have := fixTo_get h k
  rw [List.getElem?_eq_getElem h', if_pos (show k < k + 1 by omega), List.getElem?_eq_getElem h2] at this
  exact Option.some.inj this
/-- One round. -/
theorem fixTo_succ {cs : List Cell} {k : Nat} (h : k < cs.length) : fixTo cs (k + 1) = (fixTo cs k).set k (fixStep (if k = 0 then none else (fixL cs)[k - 1]?) cs[k] cs[k + 1]?) := by
  have h2 : k < (fixL cs).length := by rw [fixL_length]; exact h
  apply List.ext_getElem? fun j => ?_
  rw [List.getElem?_set, fixTo_get h]
  rcases Nat.lt_or_ge (k + 1) cs.length with h3 | h3
  · rw [fixTo_get h3]
    by_cases hj : k = j
    · subst hj
      simp only [if_true, Nat.lt_succ_self, fixTo_length, h]
      rw [List.getElem?_eq_getElem h2, fixL_get cs k h h2]
    · rw [if_neg hj]
      by_cases h4 : j < k
      · rw [if_pos h4, if_pos (by omega)]
      · rw [if_neg h4, if_neg (by omega)]
  · have hk1 : k + 1 = cs.length := by omega
    rw [show fixTo cs (k + 1) = fixL cs by rw [hk1, fixTo_all]]
    by_cases hj : k = j
    · subst hj
      simp only [if_true, fixTo_length, h]
      rw [List.getElem?_eq_getElem h2, fixL_get cs k h h2]
    · rw [if_neg hj]
      by_cases h4 : j < k
      · rw [if_pos h4]
      · rw [if_neg h4, List.getElem?_eq_none (by rw [fixL_length]; omega), List.getElem?_eq_none (by omega)]
theorem fixTo_same {cs : List Cell} {k : Nat} (h : k < cs.length) (he : fixStep (if k = 0 then none else (fixL cs)[k - 1]?) cs[k] cs[k + 1]? = cs[k]) : fixTo cs (k + 1) = fixTo cs k := by
  rw [fixTo_succ h, he]
  have hl : k < (fixTo cs k).length := by rw [fixTo_length]; exact h
  rw [← fixTo_here h hl, List.set_getElem_self]

/-- What the walk asks of a slice of cells that it owns: its block. -/
theorem OwnC.blk {w : World} {B : Nat} {v : Value} {cs : List Cell} (h : OwnC w B v cs) (hn : 0 < cs.length) : ∃ g cap, v = .slice (some ⟨g, 0, none⟩) cs.length cap ∧ B ≤ g ∧ g < w.heap.size ∧ w.rangeAt g 0 (flat cs) := by
  rcases h.2 with ⟨rfl, h0⟩ | ⟨g, cap, cur, rfl, hb, hg, hnc, hm, hsz, htk⟩
  · omega
  · refine ⟨g, cap, rfl, hb, (show Blk w g 65 cur from hg).lt, fun j u hu => ?_⟩
    rw [Nat.zero_add, (show Blk w g 65 cur from hg).cell]
    rw [← htk, List.getElem?_take] at hu
    split at hu
    · simpa using hu
    · cases hu
theorem flat_take (cs : List Cell) (k : Nat) : (flat cs).take (k * 16) = flat (cs.take k) := by
  induction cs generalizing k with
  | nil => simp [flat]
  | cons c r ih =>
    cases k with
    | zero => simp [flat]
    | succ k =>
      rw [flat_cons, List.take_succ_cons, flat_cons, ← ih k, List.take_append]
      simp only [Array.length_toList, cv_size]
      rw [List.take_of_length_le (by simp [cv_size]; omega), show (k + 1) * 16 - 16 = k * 16 by omega]
theorem flat_drop (cs : List Cell) (k : Nat) : (flat cs).drop (k * 16) = flat (cs.drop k) := by
  induction cs generalizing k with
  | nil => simp [flat]
  | cons c r ih =>
    cases k with
    | zero => simp
    | succ k =>
      rw [flat_cons, List.drop_succ_cons, ← ih k, List.drop_append]
      simp only [Array.length_toList, cv_size]
      rw [List.drop_eq_nil_of_le (by simp [cv_size]; omega), show (k + 1) * 16 - 16 = k * 16 by omega, List.nil_append]
theorem flat_set (cs : List Cell) (k : Nat) (d : Cell) (h : k < cs.length) : flat (cs.set k d) = (flat cs).take (k * 16) ++ (cv d).toList ++ (flat cs).drop ((k + 1) * 16) := by
  rw [List.set_eq_take_append_cons_drop, if_pos h, flat_append, flat_cons, flat_take, flat_drop, List.append_assoc]
/-- A cell stored into a slice of cells that the call owns. -/
theorem OwnC.put {w : World} {B g cap : Nat} {cs : List Cell} (h : OwnC w B (.slice (some ⟨g, 0, none⟩) cs.length cap) cs) {k : Nat} (hk : k < cs.length) (d : Cell) :
    ∃ W, (storeCells ⟨g, k * 16, none⟩ (cv d).toList 0).run Tryd.prog w = .ok () W ∧ OwnC W B (.slice (some ⟨g, 0, none⟩) cs.length cap) (cs.set k d) ∧ w.grownBy W (some g) := by
  rcases h.2 with ⟨h', _⟩ | ⟨g', cap', cur, h', hb, hg, hnc, hm, hsz, htk⟩
  · simp at h'
  · simp only [Value.slice.injEq, Option.some.injEq, Addr.mk.injEq, and_true, true_and] at h'
    obtain ⟨rfl, rfl⟩ := h'
    have hs := run_storeCells_at (P := Tryd.prog) g (k * 16) 65 (cv d).toList 0 cur w hg (by simp [cv_size, hsz]; omega) (cv_one d)
    refine ⟨_, hs, ⟨by rw [flat_length], .inr ⟨g, cap, _, by simp, hb, setRow_heap w g cur _ 65 _ hg, by simpa using hnc, hm, ?_, ?_⟩⟩, ⟨rfl, rfl, rfl, by simp, fun i _ hi => setRow_other w g i _ (fun e => hi (by rw [e]))⟩⟩
    · simp [cv_size, hsz]; omega
    · have hX : cur.toList = flat cs ++ cur.toList.drop (cs.length * 16) := by rw [← htk, List.take_append_drop]
      have hl := flat_length cs
      rw [flat_set cs k d hk, hX]
      simp only [List.length_set, Nat.add_zero, Array.length_toList, cv_size]
      rw [List.take_append_of_le_length (l₂ := cur.toList.drop _) (by omega), List.drop_append_of_le_length (by omega), ← List.append_assoc, List.take_left' ?_, show (k + 1) * 16 = k * 16 + 16 by omega]
      simp [cv_size, hl]; omega

end Go.Proofs.YtjligfbaljnhnaaDoor

/-
  The text of a cell: cell.Text and the reference's.
-/
set_option linter.unusedSimpArgs false
set_option linter.unusedVariables false
namespace Go.Proofs.YtjligfbaljnhnaaDoor
open Go.RowKit

def addM (s : ByteArray) (m : Int) : ByteArray := if m = 0 then s else s ++ Utf8.encode m
def Cell.text (c : Cell) : ByteArray := if c.width = 0 then ⟨#[]⟩ else if c.rune = 0 then ⟨#[32]⟩ else addM (addM (addM (Utf8.encode c.rune) c.m0) c.m1) c.m2

/-- The text after k marks. -/
def Cell.tx (c : Cell) : Nat → ByteArray
  | 0 => Utf8.encode c.rune
  | 1 => addM (Utf8.encode c.rune) c.m0
  | 2 => addM (addM (Utf8.encode c.rune) c.m0) c.m1
  | _ => addM (addM (addM (Utf8.encode c.rune) c.m0) c.m1) c.m2

theorem enc_size (r : Int) : (Utf8.encode r).size ≤ 4 := by
  unfold Utf8.encode
  simp only
  generalize (if Utf8.valid r = true then r.toNat else Utf8.runeError) = c
  split
  · exact Nat.le_of_ble_eq_true rfl
  · split
    · exact Nat.le_of_ble_eq_true rfl
    · split <;> exact Nat.le_of_ble_eq_true rfl
theorem addM_size (s : ByteArray) (m : Int) : (addM s m).size ≤ s.size + 4 := by
  unfold addM
  split
  · omega
  · have := enc_size m; simp [ByteArray.size_append]; omega
theorem tx_size (c : Cell) (k : Nat) : (c.tx k).size ≤ 16 := by
  have h0 := enc_size c.rune
  have h1 := addM_size (Utf8.encode c.rune) c.m0
  have h2 := addM_size (addM (Utf8.encode c.rune) c.m0) c.m1
  have h3 := addM_size (addM (addM (Utf8.encode c.rune) c.m0) c.m1) c.m2
  rcases k with _ | _ | _ | k <;> simp only [Cell.tx] <;> omega
theorem text_size (c : Cell) : c.text.size ≤ 16 := by
  have := tx_size c 3
  unfold Cell.text
  split
  · exact Nat.le_of_ble_eq_true rfl
  · split
    · exact Nat.le_of_ble_eq_true rfl
    · exact this
/-- The reference's runes of a cell. -/
def Cell.runes (c : Cell) : Nat → List Int
  | 0 => [c.rune]
  | 1 => [c.rune] ++ (if c.m0 = 0 then [] else [c.m0])
  | 2 => [c.rune] ++ (if c.m0 = 0 then [] else [c.m0]) ++ (if c.m1 = 0 then [] else [c.m1])
  | _ => [c.rune] ++ (if c.m0 = 0 then [] else [c.m0]) ++ (if c.m1 = 0 then [] else [c.m1]) ++ (if c.m2 = 0 then [] else [c.m2])
theorem runesBytes_snoc (l : List Int) (m : Int) : runesBytes (l ++ [m]) = runesBytes l ++ Utf8.encode m := by simp [runesBytes]
theorem bytes_empty (s : ByteArray) : ByteArray.empty ++ s = s := by
  cases s; simp [ByteArray.ext_iff]
theorem runes_add (l : List Int) (m : Int) : runesBytes (l ++ (if m = 0 then [] else [m])) = addM (runesBytes l) m := by
  unfold addM
  split
  · simp
  · rw [runesBytes_snoc]
theorem runes_tx (c : Cell) : runesBytes (c.runes 3) = c.tx 3 := by
  have h0 : runesBytes [c.rune] = Utf8.encode c.rune := by simp [runesBytes, bytes_empty]
  simp only [Cell.runes, Cell.tx, runes_add, h0]
theorem runes_len (c : Cell) (k : Nat) : 0 < (c.runes k).length ∧ (c.runes k).length ≤ 4 := by
  rcases k with _ | _ | _ | k <;> simp [Cell.runes] <;> (repeat' split) <;> simp
theorem i32_info : (Tryd.prog.info? 21).map (fun i => (i.zero, i.size, i.bytes)) = some (some (.int .i32 0), 1, 4) := by kernel_rfl
/-- The call owns a slice of runes. -/
def OwnI (w : World) (B : Nat) (v : Value) (l : List Int) : Prop := w.ownsRow B 21 1 v l.length (l.map (.int .i32))
theorem OwnI.one (w : World) (B : Nat) (r : Int) (hB : B ≤ w.heap.size) : OwnI (w.alloc (.cells #[.int .i32 r] 21)) B (.slice (some ⟨w.heap.size, 0, none⟩) 1 1) [r] :=
  ⟨by simp, .inr ⟨w.heap.size, 1, _, rfl, hB, heap_alloc_new w _, Nat.le_refl _, by simp [maxLen], by simp, by simp⟩⟩
theorem OwnI.text {w : World} {B : Nat} {v : Value} {l : List Int} (h : OwnI w B v l) (hl : 0 < l.length) : (convert 108 9 v).run Tryd.prog w = .ok (.string (runesBytes l)) w := by
  obtain ⟨g, cap, rfl, _, _⟩ := h.form hl
  have := run_convert_runes (P := Tryd.prog) w 108 9 21 ⟨g, 0, none⟩ l.length cap l (Nat.le_refl _) Tryd.underlying108 Tryd.underlying21 Tryd.underlying9
    (fun j hj => by
      have := h.cells (g := g) rfl j (.int .i32 (l.getD j 0)) (by simp [hj])
      exact this)
  rw [this, List.take_of_length_le (Nat.le_refl _)]
theorem OwnI.lt {w : World} {B : Nat} {v : Value} {l : List Int} (h : OwnI w B v l) : ∀ k, v.ownBlock = some k → B ≤ k := fun k hk => (World.ownsRow.lt h k hk).1

theorem wpList_appI {ops : Array Oper} {rest : List Oper} {o : Oper} {a : Act} {w : World} {Q : Exit → Act → World → Prop} (hgd : o.guard = none) (s x : Operand)
    (ho : o.op = .call { callee := .builtin .append, args := #[s, x], argTypes := #[108, 108] })
    (B : Nat) (v : Value) (l : List Int) (hs : a.eval s = v) (hown : OwnI w B v l) (m : Int) (hx : a.eval x = .slice (some ⟨w.heap.size, 0, none⟩) 1 1) (hl : l.length ≤ 1000) (hB : B ≤ w.heap.size)
    (h : ∀ v' w', OwnI w' B v' (l ++ [m]) → (w.alloc (.cells #[.int .i32 m] 21)).grownBy w' v.ownBlock → wpList Tryd.prog ops Q rest (a.put o.dst v') w') : wpList Tryd.prog ops Q (o :: rest) a (w.alloc (.cells #[.int .i32 m] 21)) := by
  obtain ⟨i, hi, hz0, hz1, hz2⟩ := info_parts i32_info
  refine wpList_append_own_at _ hgd s x 108 ho B 21 i _ 1 4 Tryd.underlying108 hi hz0 hz1 hz2 rfl (by omega) v l.length (l.map (.int .i32)) hs (World.ownsRow.alloc hown _) ⟨w.heap.size, 0, none⟩ 1 1 [.int .i32 m] hx rfl (cell_one_new _ _ _) (by simp [Value.oneCell'])
      (by simp only [maxLen]; omega) (by omega) (by simp; omega) fun v' w' g1 g2 _ g4 => h v' w' ?_ g2
  unfold OwnI
  simpa using g1
/-- What a round that appends a mark does. -/
theorem own_step {w wr w1 : World} {c : Cell} {v v' : Value} {l : List Int} {m : Int} (hx : Blk wr w.heap.size 65 (cv c)) (hb : Below w.heap.size w wr) (ho : OwnI wr (w.heap.size + 1) v l)
    (h1 : OwnI w1 (w.heap.size + 1) v' (l ++ [m])) (hg : (wr.alloc (.cells #[.int .i32 m] 21)).grownBy w1 v.ownBlock) :
    OwnI w1 (w.heap.size + 1) v' (l ++ [m]) ∧ Blk w1 w.heap.size 65 (cv c) ∧ Below w.heap.size w w1 := by
  have hz := hb.size
  refine ⟨h1, (hx.alloc _).grown hg (fun e => ?_), (hb.alloc hz _).grown hg (by simp; omega) (fun k hk => ?_)⟩
  · have := ho.lt _ e.symm; omega
  · have := ho.lt k hk; omega

/-- The text of the first k cells. -/
def textTo (cs : List Cell) (k : Nat) : ByteArray := (cs.take k).foldl (fun s c => s ++ c.text) ⟨#[]⟩
theorem textTo_size (cs : List Cell) (k : Nat) : (textTo cs k).size ≤ 16 * k := by
  unfold textTo
  induction k with
  | zero => exact Nat.le_refl _
  | succ k ih =>
    rcases Nat.lt_or_ge k cs.length with h | h
    · rw [List.take_succ_eq_append_getElem h, List.foldl_append]
      have := text_size cs[k]
      simp only [List.foldl_cons, List.foldl_nil, ByteArray.size_append]; omega
    · rw [List.take_of_length_le (by omega)] at ih ⊢; omega
def textsOf (cs : List Cell) : ByteArray := textTo cs cs.length
theorem textTo_succ {cs : List Cell} {k : Nat} (h : k < cs.length) : textTo cs (k + 1) = textTo cs k ++ cs[k].text := by
  unfold textTo
  rw [List.take_succ_eq_append_getElem h, List.foldl_append]
  rfl

end Go.Proofs.YtjligfbaljnhnaaDoor

/-
  Rows and fixing: the plain laws.
-/
set_option linter.unusedSimpArgs false
set_option linter.unusedVariables false
namespace Go.Proofs.YtjligfbaljnhnaaDoor
open Go.RowKit

theorem rowOk_at {cs : List Cell} (h : rowOk cs = true) {k : Nat} (hk : k < cs.length) : rowAt cs k = true := List.all_eq_true.1 h k (by simp [hk])
theorem fixL_step' {cs : List Cell} {k : Nat} (h : k < cs.length) : (fixL cs)[k]? = some (fixStep (if k = 0 then none else (fixL cs)[k - 1]?) cs[k] cs[k + 1]?) := fixGo_get none cs k h
theorem same_lists {xs ys : List Cell} (hl : xs.length = ys.length) (h : ∀ k, k < xs.length → xs[k]? = ys[k]?) : xs = ys := by
  apply List.ext_getElem? fun k => ?_
  rcases Nat.lt_or_ge k xs.length with hk | hk
  · exact h k hk
  · rw [List.getElem?_eq_none hk, List.getElem?_eq_none (by omega)]

/-- What stands in the middle of a row. -/
theorem row_parts {cs : List Cell} {k : Nat} (hk : k < cs.length) (h : rowAt cs k = true) : cs[k].ok = true ∧ (cs[k].width = 0 ↔ behindAt cs k = true) ∧ (behindAt cs k = true → cs[k].pen = (cAt cs (k - 1)).pen) ∧ (cs[k].width = 2 → k + 1 ≠ cs.length) := by
  rw [rowAt, cAt_eq hk] at h
  simp only [Bool.and_eq_true, beq_iff_eq, Bool.or_eq_true, Bool.not_eq_true', decide_eq_true_eq, Bool.and_eq_false_iff, decide_eq_false_iff_not] at h
  obtain ⟨⟨⟨h1, h2⟩, h3⟩, h4⟩ := h
  refine ⟨h1, ?_, ?_, ?_⟩
  · rw [← h2]; simp
  · intro hb; rw [hb] at h3; simpa using h3
  · intro hw he; rcases h4 with h4 | h4
    · exact h4 hw
    · exact h4 he
theorem row_of {cs : List Cell} {k : Nat} (hk : k < cs.length) (h1 : cs[k].ok = true) (h2 : cs[k].width = 0 ↔ behindAt cs k = true) (h3 : behindAt cs k = true → cs[k].pen = (cAt cs (k - 1)).pen) (h4 : cs[k].width = 2 → k + 1 ≠ cs.length) : rowAt cs k = true := by
  rw [rowAt, cAt_eq hk]
  simp only [Bool.and_eq_true, beq_iff_eq, Bool.or_eq_true, Bool.not_eq_true', decide_eq_true_eq, Bool.and_eq_false_iff, decide_eq_false_iff_not]
  refine ⟨⟨⟨h1, ?_⟩, ?_⟩, ?_⟩
  · rw [Bool.eq_iff_iff]; simpa using h2
  · cases hb : behindAt cs k
    · exact .inl rfl
    · exact .inr (h3 hb)
  · by_cases hw : cs[k].width = 2
    · exact .inr (h4 hw)
    · exact .inl hw
theorem behind_succ {cs : List Cell} {k : Nat} (hk : k < cs.length) : behindAt cs (k + 1) = decide (cs[k].width = 2) := by rw [behindAt, cAt_eq hk]

/-- A row is as it is after fixing. -/
theorem fix_row {cs : List Cell} (h : rowOk cs = true) : fixL cs = cs := by
  have key : ∀ k, k < cs.length → (fixL cs)[k]? = cs[k]? := by
    intro k
    induction k with
    | zero =>
      intro hk
      obtain ⟨h1, h2, h3, h4⟩ := row_parts hk (rowOk_at h hk)
      rw [fixL_step' hk, List.getElem?_eq_getElem hk]
      have hn : ¬ cs[0].width = 0 := fun e => by have := h2.1 e; simp [behindAt] at this
      simp only [fixStep, hn, if_false, if_true]
      by_cases hw : cs[0].width = 2
      · have hk1 : 0 + 1 < cs.length := by have := h4 hw; omega
        have h5 := (row_parts hk1 (rowOk_at h hk1)).2.1.2 (by rw [behind_succ hk]; simp [hw])
        simp [hw, List.getElem?_eq_getElem hk1, h5]
      · simp [hw]
    | succ k ih =>
      intro hk
      have hk0 : k < cs.length := by omega
      obtain ⟨h1, h2, h3, h4⟩ := row_parts hk (rowOk_at h hk)
      rw [fixL_step' hk, List.getElem?_eq_getElem hk, if_neg (by omega), Nat.add_sub_cancel, ih hk0, List.getElem?_eq_getElem hk0]
      congr 1
      by_cases h0 : cs[k + 1].width = 0
      · have hb := h2.1 h0
        have hp := h3 hb
        rw [behind_succ hk0] at hb
        simp only [decide_eq_true_eq] at hb
        rw [Nat.add_sub_cancel, cAt_eq hk0] at hp
        simp only [fixStep, h0, if_true, Option.any_some, hb, decide_true, Option.getD_some]
        rw [← hp]
        exact (ok_zero h1 h0).symm
      · by_cases hw : cs[k + 1].width = 2
        · have hk1 : k + 1 + 1 < cs.length := by have := h4 hw; omega
          have h5 := (row_parts hk1 (rowOk_at h hk1)).2.1.2 (by rw [behind_succ hk]; simp [hw])
          simp [fixStep, hw, List.getElem?_eq_getElem hk1, h5]
        · simp [fixStep, h0, hw]
  exact same_lists (fixL_length cs) fun k hk => key k (by rw [fixL_length] at hk; exact hk)

theorem fixStep_two {p n : Option Cell} {c : Cell} (h : (fixStep p c n).width = 2) : c.width = 2 ∧ fixStep p c n = c ∧ n.any (fun d => decide (d.width = 0)) = true := by
  unfold fixStep at h ⊢
  by_cases h0 : c.width = 0
  · simp only [h0, if_true] at h
    split at h <;> simp [spacer, blank] at h
  · by_cases h2 : c.width = 2
    · simp only [h2] at h ⊢
      by_cases hn : n.any (fun d => decide (d.width = 0)) = true
      · simp [hn]
      · simp [hn, blank] at h
    · simp [h0, h2] at h
theorem fixStep_zero {p n : Option Cell} {c : Cell} (h : (fixStep p c n).width = 0) : c.width = 0 ∧ p.any (fun d => decide (d.width = 2)) = true ∧ fixStep p c n = spacer (p.getD cell0).pen := by
  unfold fixStep at h ⊢
  by_cases h0 : c.width = 0
  · simp only [h0, if_true] at h ⊢
    by_cases hp : p.any (fun d => decide (d.width = 2)) = true
    · simp [hp]
    · simp [hp, blank] at h
  · by_cases h2 : c.width = 2
    · rw [if_neg h0, if_pos h2] at h
      split at h
      · exact absurd h h0
      · simp [blank] at h
    · rw [if_neg h0, if_neg h2] at h; exact absurd h h0
theorem fixAt {cs : List Cell} {k : Nat} (h : k < cs.length) : ∃ h' : k < (fixL cs).length, (fixL cs)[k] = fixStep (if k = 0 then none else (fixL cs)[k - 1]?) cs[k] cs[k + 1]? := by
  have h' : k < (fixL cs).length := by rw [fixL_length]; exact h
  exact ⟨h', fixL_get cs k h h'⟩

/-- Fixing fixed cells changes nothing. -/
theorem fix_fix (cs : List Cell) : fixL (fixL cs) = fixL cs := by
  have go : ∀ k, k < cs.length → ((if k = 0 then none else (fixL (fixL cs))[k - 1]?) = (if k = 0 then none else (fixL cs)[k - 1]?)) → (fixL (fixL cs))[k]? = (fixL cs)[k]? := by
    intro k hk hp
    obtain ⟨h', he⟩ := fixAt hk
    rw [fixL_step' h', List.getElem?_eq_getElem h', hp]
    congr 1
    by_cases h0 : (fixL cs)[k].width = 0
    · have h0' := h0
      rw [he] at h0'
      obtain ⟨_, h2, h3⟩ := fixStep_zero h0'
      rw [show fixStep (if k = 0 then none else (fixL cs)[k - 1]?) (fixL cs)[k] (fixL cs)[k + 1]? = spacer ((if k = 0 then none else (fixL cs)[k - 1]?).getD cell0).pen by
        rw [fixStep, if_pos h0, if_pos h2]]
      rw [he, h3]
    · by_cases hw : (fixL cs)[k].width = 2
      · have hw' := hw
        rw [he] at hw'
        obtain ⟨h1, h2, h3⟩ := fixStep_two hw'
        have hk1 : k + 1 < cs.length := by
          rcases Nat.lt_or_ge (k + 1) cs.length with h | h
          · exact h
          · rw [List.getElem?_eq_none h] at h3; simp at h3
        obtain ⟨h1', he1⟩ := fixAt hk1
        have hz : (fixL cs)[k + 1].width = 0 := by
          rw [List.getElem?_eq_getElem hk1] at h3
          simp only [Option.any_some, decide_eq_true_eq] at h3
          rw [he1, if_neg (by omega), Nat.add_sub_cancel, List.getElem?_eq_getElem h']
          simp [fixStep, h3, hw, spacer]
        rw [fixStep, if_neg h0, if_pos hw, if_pos (by simp [List.getElem?_eq_getElem h1', hz])]
      · rw [fixStep, if_neg h0, if_neg hw]
  have key : ∀ k, k < cs.length → (fixL (fixL cs))[k]? = (fixL cs)[k]? := by
    intro k
    induction k with
    | zero => intro hk; exact go 0 hk rfl
    | succ k ih =>
      intro hk
      apply go (k + 1) hk
      simp only [Nat.add_one_ne_zero, if_false, Nat.add_sub_cancel]
      exact ih (by omega)
  exact same_lists (by simp [fixL_length]) fun k hk => key k (by simpa [fixL_length] using hk)

/-- Fixed cells, all of which are valid before, are a row. -/
theorem fix_valid {cs : List Cell} (h : ∀ c ∈ cs, c.ok = true) : rowOk (fixL cs) = true := by
  have hno : ∀ k, k + 1 < cs.length → ∀ hk : k < (fixL cs).length, (fixL cs)[k].width = 2 → ∀ hk1 : k + 1 < cs.length, cs[k + 1].width = 0 := by
    intro k hk hk' hw hk1
    obtain ⟨_, he⟩ := fixAt (cs := cs) (k := k) (by omega)
    rw [he] at hw
    obtain ⟨h1, h2, h3⟩ := fixStep_two hw
    rw [List.getElem?_eq_getElem hk1] at h3
    simpa using h3
  have hok : ∀ k (hk : k < (fixL cs).length), (fixL cs)[k].ok = true ∧ ((fixL cs)[k].width = 2 → k + 1 ≠ (fixL cs).length) ∧ ((fixL cs)[k].width = 0 ↔ behindAt (fixL cs) k = true) ∧ (behindAt (fixL cs) k = true → (fixL cs)[k].pen = (cAt (fixL cs) (k - 1)).pen) := by
    intro k
    induction k with
    | zero =>
      intro hk'
      have hk : 0 < cs.length := by rw [fixL_length] at hk'; exact hk'
      obtain ⟨_, he⟩ := fixAt hk
      have ho := h cs[0] (List.getElem_mem hk)
      simp only [if_true] at he
      refine ⟨?_, ?_, ?_, ?_⟩
      · rw [he, fixStep]
        by_cases h0 : cs[0].width = 0
        · simp [h0, ok_blank, ok_pen ho]
        · rw [if_neg h0]
          by_cases h2 : cs[0].width = 2
          · rw [if_pos h2]; split
            · exact ho
            · rw [ok_blank]; exact ok_pen ho
          · rw [if_neg h2]; exact ho
      · intro hw he2
        rw [he] at hw
        have h3 := (fixStep_two hw).2.2
        rw [fixL_length] at he2
        rw [List.getElem?_eq_none (by omega)] at h3
        simp at h3
      · refine ⟨fun hw => ?_, fun hb => by simp [behindAt] at hb⟩
        rw [he] at hw
        have := (fixStep_zero hw).2.1
        simp at this
      · intro hb; simp [behindAt] at hb
    | succ k ih =>
      intro hk'
      have hk : k + 1 < cs.length := by rw [fixL_length] at hk'; exact hk'
      have hk0 : k < (fixL cs).length := by omega
      obtain ⟨i1, i2, i3, i4⟩ := ih hk0
      obtain ⟨_, he⟩ := fixAt hk
      have ho := h cs[k + 1] (List.getElem_mem hk)
      rw [if_neg (by omega), Nat.add_sub_cancel, List.getElem?_eq_getElem hk0] at he
      have hbe := behind_succ hk0
      refine ⟨?_, ?_, ?_, ?_⟩
      · rw [he, fixStep]
        by_cases h0 : cs[k + 1].width = 0
        · rw [if_pos h0]; split
          · exact ok_spacer (ok_pen i1)
          · rw [ok_blank]; exact ok_pen ho
        · rw [if_neg h0]
          by_cases h2 : cs[k + 1].width = 2
          · rw [if_pos h2]; split
            · exact ho
            · rw [ok_blank]; exact ok_pen ho
          · rw [if_neg h2]; exact ho
      · intro hw he2
        rw [he] at hw
        have h3 := (fixStep_two hw).2.2
        rw [fixL_length] at he2
        rw [List.getElem?_eq_none (by omega)] at h3
        simp at h3
      · rw [hbe]
        refine ⟨fun hw => ?_, fun hb => ?_⟩
        · rw [he] at hw
          simpa using (fixStep_zero hw).2.1
        · have hb' : (fixL cs)[k].width = 2 := by simpa using hb
          have h0 := hno k hk hk0 hb' hk
          rw [he]
          simp [fixStep, h0, hb', spacer]
      · rw [hbe]
        intro hb
        have hb' : (fixL cs)[k].width = 2 := by simpa using hb
        have h0 := hno k hk hk0 hb' hk
        rw [he, Nat.add_sub_cancel, cAt_eq hk0]
        simp [fixStep, h0, hb', spacer]
  refine rowOk_yes fun k hk => ?_
  obtain ⟨h1, h2, h3, h4⟩ := hok k hk
  exact row_of hk h1 h3 h4 h2

/-- Rows behind one another are a row. -/
theorem row_append {a b : List Cell} (ha : rowOk a = true) (hb : rowOk b = true) : rowOk (a ++ b) = true := by
  have hc1 : ∀ k, k < a.length → cAt (a ++ b) k = cAt a k := fun k hk => by simp [cAt, List.getElem?_append_left hk]
  have hc2 : ∀ k, cAt (a ++ b) (a.length + k) = cAt b k := fun k => by simp [cAt, List.getElem?_append_right]
  refine rowOk_yes fun k hk => ?_
  rcases Nat.lt_or_ge k a.length with h | h
  · obtain ⟨h1, h2, h3, h4⟩ := row_parts h (rowOk_at ha h)
    have hbe : behindAt (a ++ b) k = behindAt a k := by
      cases k with
      | zero => rfl
      | succ k => rw [behindAt, behindAt, hc1 k (by omega)]
    have he : (a ++ b)[k] = a[k] := List.getElem_append_left h
    refine row_of hk (by rw [he]; exact h1) (by rw [he, hbe]; exact h2) (by rw [he, hbe, hc1 (k - 1) (by omega)]; exact h3) ?_
    rw [he]
    intro hw
    have := h4 hw
    simp; omega
  · obtain ⟨j, rfl⟩ := Nat.exists_eq_add_of_le h
    have hj : j < b.length := by simpa using hk
    obtain ⟨h1, h2, h3, h4⟩ := row_parts hj (rowOk_at hb hj)
    have he : (a ++ b)[a.length + j] = b[j] := by simp [List.getElem_append_right]
    have hbe : behindAt (a ++ b) (a.length + j) = behindAt b j := by
      cases j with
      | zero =>
        rcases Nat.eq_zero_or_pos a.length with h0 | h0
        · have : a = [] := List.eq_nil_of_length_eq_zero h0
          subst this; rfl
        · obtain ⟨n, hn⟩ : ∃ n, a.length = n + 1 := ⟨a.length - 1, by omega⟩
          have hna : n < a.length := by omega
          have hp := (row_parts hna (rowOk_at ha hna)).2.2.2
          have : ¬ a[n].width = 2 := fun hw => hp hw (by omega)
          have h1 : behindAt (a ++ b) (n + 1) = false := by rw [behindAt, hc1 n hna, cAt_eq hna]; simp [this]
          rw [hn]; exact h1
      | succ j => rw [show a.length + (j + 1) = (a.length + j) + 1 by omega, behindAt, behindAt, hc2]
    refine row_of hk (by rw [he]; exact h1) (by rw [he, hbe]; exact h2) ?_ ?_
    · rw [he, hbe]
      intro hbb
      cases j with
      | zero => simp [behindAt] at hbb
      | succ j => rw [show a.length + (j + 1) - 1 = a.length + j by omega, hc2]; exact h3 hbb
    · rw [he]
      intro hw
      have := h4 hw
      simp; omega

theorem enc_pos (r : Int) : 0 < (Utf8.encode r).size := by
  unfold Utf8.encode
  simp only
  generalize (if Utf8.valid r = true then r.toNat else Utf8.runeError) = c
  split
  · exact Nat.le_of_ble_eq_true rfl
  · split
    · exact Nat.le_of_ble_eq_true rfl
    · split <;> exact Nat.le_of_ble_eq_true rfl
/-- Marking keeps a cell valid, adds one mark, and lengthens its text. -/
theorem mark_holds {c x : Cell} {m : Int} (hc : c.ok = true) (h : markOf c m = (x, 0)) : x.ok = true ∧ x.nMarks = c.nMarks + 1 ∧ c.nMarks < 3 ∧ c.text.size < x.text.size := by
  have hm0 : ¬ (c.ok = false ∨ ¬ wOf m = 0) := fun hh => by simp [markOf, hh] at h
  have hwm : wOf m = 0 := by by_cases hh : wOf m = 0; exact hh; exact absurd (.inr hh) hm0
  have hr : ¬ c.rune = 0 := fun hh => by simp [markOf, hm0, hh] at h
  have hm : ¬ m = 0 := fun hh => by rw [hh, wOf_zero] at hwm; omega
  have hep := enc_pos m
  have ho := hc
  rw [Cell.ok, if_neg hr] at ho
  simp only [Bool.and_eq_true, decide_eq_true_eq] at ho
  obtain ⟨hp, hmk, hw, hwo⟩ := ho
  simp only [Cell.marksOk, Cell.mOk, Bool.and_eq_true, Bool.or_eq_true, decide_eq_true_eq, Bool.not_eq_true', decide_eq_false_iff_not] at hmk
  obtain ⟨⟨k0, k1⟩, k2⟩ := hmk
  rw [markOf, if_neg hm0, if_neg hr] at h
  by_cases z0 : c.m0 = 0
  · rw [if_pos z0] at h
    obtain rfl := (Prod.mk.inj h).1
    have z1 : c.m1 = 0 := by rcases k1 with h | h; exact h; exact absurd z0 h.2
    have z2 : c.m2 = 0 := by rcases k2 with h | h; exact h; exact absurd z1 h.2
    refine ⟨?_, by simp [Cell.nMarks, z0, z1, hm], by simp [Cell.nMarks, z0], ?_⟩
    · simp [Cell.ok, hr, hp, Cell.marksOk, Cell.mOk, hwm, z1, z2, hw, ← hwo]
    · have : ¬ c.width = 0 := by omega
      simp only [Cell.text, this, if_false, hr, addM, z0, z1, z2, hm, if_true, ByteArray.size_append]
      omega
  · rw [if_neg z0] at h
    by_cases z1 : c.m1 = 0
    · rw [if_pos z1] at h
      obtain rfl := (Prod.mk.inj h).1
      have z2 : c.m2 = 0 := by rcases k2 with h | h; exact h; exact absurd z1 h.2
      refine ⟨?_, by simp [Cell.nMarks, z0, z1, z2, hm], by simp [Cell.nMarks, z0, z1], ?_⟩
      · have : wOf c.m0 = 0 := by rcases k0 with h | h; exact absurd h z0; exact h
        simp [Cell.ok, hr, hp, Cell.marksOk, Cell.mOk, hwm, z0, z2, hw, ← hwo, this]
      · have : ¬ c.width = 0 := by omega
        simp only [Cell.text, this, if_false, hr, addM, z0, z1, z2, hm, if_true, ByteArray.size_append]
        omega
    · rw [if_neg z1] at h
      by_cases z2 : c.m2 = 0
      · rw [if_pos z2] at h
        obtain rfl := (Prod.mk.inj h).1
        refine ⟨?_, by simp [Cell.nMarks, z0, z1, z2, hm], by simp [Cell.nMarks, z0, z1, z2], ?_⟩
        · have w0 : wOf c.m0 = 0 := by rcases k0 with h | h; exact absurd h z0; exact h
          have w1 : wOf c.m1 = 0 := by rcases k1 with h | h; exact absurd h z1; exact h.1
          simp [Cell.ok, hr, hp, Cell.marksOk, Cell.mOk, hwm, z0, z1, hw, ← hwo, w0, w1]
        · have : ¬ c.width = 0 := by omega
          simp only [Cell.text, this, if_false, hr, addM, z0, z1, z2, hm, if_true, ByteArray.size_append]
          omega
      · rw [if_neg z2] at h
        have := (Prod.mk.inj h).2
        omega
end Go.Proofs.YtjligfbaljnhnaaDoor

/-
  Lines: the plain functions (used, trimmed, fitted, put) and their laws.
-/
set_option linter.unusedSimpArgs false
set_option linter.unusedVariables false
namespace Go.Proofs.YtjligfbaljnhnaaDoor
open Go.RowKit

def cEmp : Cell := blank pen0
def lineOk (cs : List Cell) : Bool := decide (cs.length ≤ 1000) && rowOk cs
def usedOf : List Cell → Nat
  | [] => 0
  | c :: r => if usedOf r = 0 then (if c = cEmp then 0 else 1) else usedOf r + 1
theorem usedOf_le (cs : List Cell) : usedOf cs ≤ cs.length := by
  induction cs with
  | nil => exact Nat.le_refl _
  | cons c r ih => simp only [usedOf, List.length_cons]; split; (split <;> omega); omega
theorem usedOf_snoc (cs : List Cell) (c : Cell) : usedOf (cs ++ [c]) = if c = cEmp then usedOf cs else cs.length + 1 := by
  induction cs with
  | nil => simp [usedOf]
  | cons d r ih =>
    rw [List.cons_append]
    simp only [usedOf, ih]
    by_cases h : c = cEmp
    · simp [h]
    · simp [h]
theorem usedOf_take {cs : List Cell} {k : Nat} (hk : k < cs.length) : usedOf (cs.take (k + 1)) = if cs[k] = cEmp then usedOf (cs.take k) else k + 1 := by
  rw [List.take_succ_eq_append_getElem hk, usedOf_snoc, List.length_take, Nat.min_eq_left (Nat.le_of_lt hk)]
theorem usedOf_self (cs : List Cell) : usedOf (cs.take (usedOf cs)) = usedOf cs := by
  induction cs with
  | nil => rfl
  | cons c r ih =>
    simp only [usedOf]
    split
    · rename_i h
      split
      · rfl
      · rename_i h2; simp [usedOf, h2]
    · rename_i h
      rw [List.take_succ_cons]
      simp only [usedOf, ih, if_neg h]
theorem usedOf_more (cs : List Cell) (n : Nat) : usedOf (cs ++ List.replicate n cEmp) = usedOf cs := by
  induction n with
  | zero => simp
  | succ n ih => rw [List.replicate_succ', ← List.append_assoc, usedOf_snoc, if_pos rfl, ih]
def trimL (cs : List Cell) : List Cell := cs.take (usedOf cs)
def empties (n : Nat) : List Cell := List.replicate n cEmp
def fitTo (n : Nat) (cs : List Cell) : List Cell := fixL (cs.take n) ++ empties (n - cs.length)
theorem fitTo_length (n : Nat) (cs : List Cell) : (fitTo n cs).length = n := by simp [fitTo, fixL_length, empties]; omega
def putAt (at_ : Nat) (ds cs : List Cell) : List Cell := fixL (cs.take at_) ++ ds ++ fixL (cs.drop (at_ + ds.length))
theorem putAt_length {at_ : Nat} {ds cs : List Cell} (h : at_ + ds.length ≤ cs.length) : (putAt at_ ds cs).length = cs.length := by simp [putAt, fixL_length]; omega
theorem row_all {cs : List Cell} (h : rowOk cs = true) : ∀ c ∈ cs, c.ok = true := fun c hc => by
  obtain ⟨k, hk, rfl⟩ := List.getElem_of_mem hc
  exact (row_parts hk (rowOk_at h hk)).1
theorem row_nil : rowOk [] = true := rfl
theorem row_empties (n : Nat) : rowOk (empties n) = true := by
  rw [show empties n = fixL (empties n) from ?_]
  · exact fix_valid fun c hc => by rw [List.eq_of_mem_replicate hc]; decide
  · have key : ∀ (n : Nat) (p : Option Cell), fixGo p (empties n) = empties n := by
      intro n
      induction n with
      | zero => intro p; rfl
      | succ n ih =>
        intro p
        show fixGo p (cEmp :: empties n) = cEmp :: empties n
        simp only [fixGo, ih]
        congr 1
    exact (key n none).symm
theorem fit_row (n : Nat) {cs : List Cell} (h : rowOk cs = true) : rowOk (fitTo n cs) = true :=
  row_append (fix_valid fun c hc => row_all h c (List.mem_of_mem_take hc)) (row_empties _)
theorem put_row {at_ : Nat} {ds cs : List Cell} (h : rowOk cs = true) (hd : rowOk ds = true) : rowOk (putAt at_ ds cs) = true :=
  row_append (row_append (fix_valid fun c hc => row_all h c (List.mem_of_mem_take hc)) hd) (fix_valid fun c hc => row_all h c (List.mem_of_mem_drop hc))
theorem fit_len {cs : List Cell} (h : rowOk cs = true) : fitTo cs.length cs = cs := by
  simp [fitTo, empties, fix_row h]
theorem fit_wide {cs : List Cell} (h : rowOk cs = true) (m : Nat) : fitTo (cs.length + m) cs = cs ++ empties m := by
  simp [fitTo, empties, List.take_of_length_le, fix_row h]
/-- Cells of an empty end may be left out of a row. -/
theorem row_trim {cs : List Cell} (h : rowOk cs = true) (n : Nat) (hn : n ≤ cs.length) (he : ∀ k (hk : k < cs.length), n ≤ k → cs[k] = cEmp) : rowOk (cs.take n) = true := by
  refine rowOk_yes fun k hk => ?_
  have hk' : k < n ∧ k < cs.length := by simp at hk; omega
  obtain ⟨p1, p2, p3, p4⟩ := row_parts hk'.2 (rowOk_at h hk'.2)
  have hg : (cs.take n)[k] = cs[k] := by simp
  have hb : behindAt (cs.take n) k = behindAt cs k := by
    cases k with
    | zero => rfl
    | succ k =>
      rw [behind_succ (by simp; omega), behind_succ (by omega)]
      simp
  have hc : behindAt cs k = true → (cAt (cs.take n) (k - 1)).pen = (cAt cs (k - 1)).pen := fun hb => by
    cases k with
    | zero => simp [behindAt] at hb
    | succ k => rw [Nat.add_sub_cancel, cAt_eq (by simp; omega), cAt_eq (by omega)]; simp
  refine row_of hk (by rw [hg]; exact p1) (by rw [hg, hb]; exact p2) (fun hx => ?_) (fun hx => ?_)
  · rw [hb] at hx; rw [hg, hc hx]; exact p3 hx
  · rw [hg] at hx
    have hlt := p4 hx
    have hl : (cs.take n).length = n := by simp; omega
    rw [hl]
    rcases Nat.lt_or_ge (k + 1) n with h1 | h1
    · omega
    · exfalso
      have h2 : k + 1 < cs.length := by omega
      have h3 := he (k + 1) h2 h1
      obtain ⟨_, q2, _, _⟩ := row_parts h2 (rowOk_at h h2)
      have : cs[k + 1].width = 0 := q2.2 (by rw [behind_succ hk'.2]; simpa using hx)
      rw [h3] at this
      simp [cEmp, blank] at this
theorem usedOf_rest (cs : List Cell) : ∀ k (hk : k < cs.length), usedOf cs ≤ k → cs[k] = cEmp := by
  induction cs with
  | nil => intro k hk; simp at hk
  | cons c r ih =>
    intro k hk hu
    simp only [usedOf] at hu
    cases k with
    | zero =>
      split at hu
      · split at hu
        · rename_i h; simpa using h
        · omega
      · omega
    | succ k =>
      simp only [List.getElem_cons_succ]
      apply ih
      split at hu
      · rename_i h; rw [h]; omega
      · omega
theorem trim_row {cs : List Cell} (h : rowOk cs = true) : rowOk (trimL cs) = true := row_trim h _ (usedOf_le cs) (usedOf_rest cs)
theorem trim_length (cs : List Cell) : (trimL cs).length = usedOf cs := by have := usedOf_le cs; simp [trimL]; omega
theorem trim_trim (cs : List Cell) : trimL (trimL cs) = trimL cs := by
  unfold trimL; rw [usedOf_self, List.take_take, Nat.min_self]
theorem trim_wide (cs : List Cell) (n : Nat) : trimL (cs ++ empties n) = trimL cs := by
  unfold trimL empties; rw [usedOf_more, List.take_append_of_le_length (usedOf_le cs)]
end Go.Proofs.YtjligfbaljnhnaaDoor

/-
  cell.Fix.
-/
set_option linter.unusedSimpArgs false
set_option linter.unusedVariables false
namespace Go.Proofs.YtjligfbaljnhnaaDoor
open Go.RowKit

/-- What Fix gives: a slice of its own with the fixed cells. -/
def FixEnd (cs : List Cell) (w : World) (e : Ending) (w' : World) : Prop := ∃ v, e = .returned v ∧ OwnC w' w.heap.size v (fixL cs) ∧ Below w.heap.size w w'
theorem below_put {w0 w w' : World} {g : Nat} (hb : Below w0.heap.size w0 w) (hg : w.grownBy w' (some g)) (hB : w0.heap.size ≤ g) : Below w0.heap.size w0 w' := hb.grown hg hb.size (fun k hk => by cases hk; exact hB)
/-- What the walk asks of an element of a slice at the head of a block. -/
theorem own_elem {w : World} {g : Nat} {l : List Cell} (h : w.rangeAt g 0 (flat l)) {k : Nat} (hk : k < l.length) {c : Cell} (hc : l[k] = c) :
    w.cell? ⟨g, k * 16 + 4, none⟩ = some (.int .i64 c.width) ∧ penAt w g (k * 16 + 5) = some c.pen ∧ cellAt w g (k * 16) = some c := by
  have h1 := elem_width h hk
  have h2 := elem_pen h hk
  have h3 := elem_cell h hk
  rw [Nat.zero_add] at h1 h2 h3
  rw [hc] at h1 h2 h3
  exact ⟨h1, h2, h3⟩
theorem OwnC.head {w : World} {B n c : Nat} {A : Option Addr} {cs : List Cell} (h : OwnC w B (.slice A n c) cs) (hn : 0 < cs.length) : ∃ g, A = some ⟨g, 0, none⟩ ∧ n = cs.length ∧ B ≤ g ∧ g < w.heap.size ∧ w.rangeAt g 0 (flat cs) := by
  obtain ⟨g, cap, hv, h1, h2, h3⟩ := h.blk hn
  simp only [Value.slice.injEq] at hv
  exact ⟨g, hv.1, hv.2.1, h1, h2, h3⟩
theorem OwnC.putAt {w : World} {B g n cap : Nat} {cs : List Cell} (h : OwnC w B (.slice (some ⟨g, 0, none⟩) n cap) cs) {k : Nat} (hk : k < cs.length) (d : Cell) :
    ∃ W, (storeCells ⟨g, k * 16, none⟩ (cv d).toList 0).run Tryd.prog w = .ok () W ∧ OwnC W B (.slice (some ⟨g, 0, none⟩) n cap) (cs.set k d) ∧ w.grownBy W (some g) := by
  obtain ⟨_, _, rfl, _⟩ := h.head (by omega)
  exact h.put hk d

set_option maxRecDepth 100000 in
set_option maxHeartbeats 8000000 in
theorem cellFix_any (A : Option Addr) (c : Nat) (cs : List Cell) (w : World) (ha : RdC w A c cs) (hn : cs.length ≤ 100000) :
    Calls Tryd.prog 73 #[.slice A cs.length c] w (FixEnd cs w) := by
  have HA := Lib.hid ha
  clear ha
  go_enter Tryd.func73, Tryd.ntmps73
  go_wp2_with (at_builtin; (refine wpList_appC rfl _ _ rfl w.heap.size (.slice none 0 0) [] rfl (OwnC.nil w _) A c cs rfl HA.out (by simp; omega) (Nat.le_refl _) ?_); intro v1 w1 hown1 hg1 hat1; rw [List.nil_append] at hown1; obtain ⟨A1, c1, rfl, hrd1⟩ := hown1.form; have HO := Lib.hid hown1; have HB := Lib.hid ((Below.refl _ _).grown hg1 (Nat.le_refl _) (by simp [Value.ownBlock])); clear hown1 hg1 hat1 hrd1)
  go_loopw [11] (fun i wr => ∃ k : Nat, k ≤ cs.length ∧ i = .int .i64 k ∧ OwnC wr w.heap.size (.slice A1 cs.length c1) (fixTo cs k) ∧ Below w.heap.size w wr) (fun i _ => cs.length - (intOf i).toNat)
  case atStart => exact ⟨0, by omega, rfl, by rw [fixTo_zero]; exact HO.out, HB.out⟩
  case round =>
    clear HO HB
    obtain ⟨k, hk, rfl, ho, hb⟩ := hrel
    have HO := Lib.hid ho
    have HW := Lib.hid hb
    clear ho hb
    by_cases hlt : k < cs.length
    case neg =>
      obtain rfl : k = cs.length := by omega
      go_wp2_with fail
      go_ret
      exact ⟨_, rfl, by have := HO.out; rw [fixTo_all] at this; exact this, HW.out⟩
    have HL := Lib.hid (fixTo_length cs k)
    obtain ⟨g, rfl, -, hgB, hgz, hr⟩ := HO.out.head (by rw [HL.out]; omega)
    have HR := Lib.hid hr
    have HB := Lib.hid hgB
    clear hr hgB
    obtain ⟨hcw, hcp, _⟩ := own_elem HR.out (by rw [HL.out]; exact hlt) (fixTo_here hlt (by rw [HL.out]; exact hlt))
    have HS := Lib.hid (fixTo_succ hlt)
    cases k with
    | zero =>
      have HPR := Lib.hid (show (if 0 = 0 then none else (fixL cs)[0 - 1]?) = none from rfl)
      simp only [Nat.zero_mul, Nat.zero_add] at hcw hcp
      by_cases hnx : 0 + 1 < cs.length
      case neg =>
        have HNX := Lib.hid (show cs[0 + 1]? = none from List.getElem?_eq_none (by omega))
        by_cases h0 : cs[0].width = 0
        · have h0' := beq_yes h0
          have h2' : (cs[0].width == 2) = false := beq_no (by omega)
          have H0 := Lib.hid h0
          clear h0
          have HSE := Lib.hid (show fixStep (if 0 = 0 then none else (fixL cs)[0 - 1]?) cs[0] cs[0 + 1]? = blank cs[0].pen by rw [HPR.out, HNX.out]; simp [fixStep, H0.out])
          go_wp2_with fail
          refine (cellBlank_any _ _).mono ?_
          rintro e w2 ⟨rfl, hb2⟩
          obtain ⟨W, hst, ho2, hg2⟩ := (HO.out.bel hb2).putAt (k := 0) (by rw [HL.out]; exact hlt) (blank cs[0].pen)
          have HO2 := Lib.hid ho2
          have HG2 := Lib.hid hg2
          rw [Nat.zero_mul] at hst
          have hz2 := hb2.size
          clear ho2 hg2
          go_wp2_with fail
          go_roundw
          case rel => exact ⟨0 + 1, by omega, by go_num, by rw [HS.out, HSE.out]; exact HO2.out, below_put (HW.out.trans (hb2.mono HW.out.size)) HG2.out HB.out⟩
          case measure => simp [intOf]; omega
        have h0' := beq_no h0
        have H0 := Lib.hid h0
        clear h0
        by_cases h2 : cs[0].width = 2
        · have h2' := beq_yes h2
          have H2 := Lib.hid h2
          clear h2
          have HSE := Lib.hid (show fixStep (if 0 = 0 then none else (fixL cs)[0 - 1]?) cs[0] cs[0 + 1]? = blank cs[0].pen by rw [HPR.out, HNX.out]; simp [fixStep, H0.out, H2.out])
          go_wp2_with fail
          refine (cellBlank_any _ _).mono ?_
          rintro e w2 ⟨rfl, hb2⟩
          obtain ⟨W, hst, ho2, hg2⟩ := (HO.out.bel hb2).putAt (k := 0) (by rw [HL.out]; exact hlt) (blank cs[0].pen)
          have HO2 := Lib.hid ho2
          have HG2 := Lib.hid hg2
          rw [Nat.zero_mul] at hst
          have hz2 := hb2.size
          clear ho2 hg2
          go_wp2_with fail
          go_roundw
          case rel => exact ⟨0 + 1, by omega, by go_num, by rw [HS.out, HSE.out]; exact HO2.out, below_put (HW.out.trans (hb2.mono HW.out.size)) HG2.out HB.out⟩
          case measure => simp [intOf]; omega
        have h2' := beq_no h2
        have H2 := Lib.hid h2
        clear h2
        have HSE := Lib.hid (fixTo_same hlt (show fixStep (if 0 = 0 then none else (fixL cs)[0 - 1]?) cs[0] cs[0 + 1]? = cs[0] by rw [HPR.out, HNX.out]; simp [fixStep, H0.out, H2.out]))
        go_wp2_with fail
        go_roundw
        case rel => exact ⟨0 + 1, by omega, by go_num, by rw [HSE.out]; exact HO.out, HW.out⟩
        case measure => simp [intOf]; omega
      have HNX := Lib.hid (List.getElem?_eq_getElem hnx)
      obtain ⟨hnw, _, _⟩ := own_elem HR.out (by rw [HL.out]; exact hnx) (fixTo_next hnx (by rw [HL.out]; exact hnx))
      simp only [Nat.zero_add, Nat.one_mul] at hnw
      by_cases hw : cs[0 + 1].width = 0
      · have hw' := beq_yes hw
        have HNW := Lib.hid hw
        clear hw
        by_cases h0 : cs[0].width = 0
        · have h0' := beq_yes h0
          have h2' : (cs[0].width == 2) = false := beq_no (by omega)
          have H0 := Lib.hid h0
          clear h0
          have HSE := Lib.hid (show fixStep (if 0 = 0 then none else (fixL cs)[0 - 1]?) cs[0] cs[0 + 1]? = blank cs[0].pen by rw [HPR.out, HNX.out]; simp [fixStep, H0.out])
          go_wp2_with fail
          refine (cellBlank_any _ _).mono ?_
          rintro e w2 ⟨rfl, hb2⟩
          obtain ⟨W, hst, ho2, hg2⟩ := (HO.out.bel hb2).putAt (k := 0) (by rw [HL.out]; exact hlt) (blank cs[0].pen)
          have HO2 := Lib.hid ho2
          have HG2 := Lib.hid hg2
          rw [Nat.zero_mul] at hst
          have hz2 := hb2.size
          clear ho2 hg2
          go_wp2_with fail
          go_roundw
          case rel => exact ⟨0 + 1, by omega, by go_num, by rw [HS.out, HSE.out]; exact HO2.out, below_put (HW.out.trans (hb2.mono HW.out.size)) HG2.out HB.out⟩
          case measure => simp [intOf]; omega
        have h0' := beq_no h0
        have H0 := Lib.hid h0
        clear h0
        by_cases h2 : cs[0].width = 2
        · have h2' := beq_yes h2
          have H2 := Lib.hid h2
          clear h2
          have HSE := Lib.hid (fixTo_same hlt (show fixStep (if 0 = 0 then none else (fixL cs)[0 - 1]?) cs[0] cs[0 + 1]? = cs[0] by rw [HPR.out, HNX.out]; simp [fixStep, H0.out, H2.out, HNW.out]))
          go_wp2_with fail
          go_roundw
          case rel => exact ⟨0 + 1, by omega, by go_num, by rw [HSE.out]; exact HO.out, HW.out⟩
          case measure => simp [intOf]; omega
        have h2' := beq_no h2
        have H2 := Lib.hid h2
        clear h2
        have HSE := Lib.hid (fixTo_same hlt (show fixStep (if 0 = 0 then none else (fixL cs)[0 - 1]?) cs[0] cs[0 + 1]? = cs[0] by rw [HPR.out, HNX.out]; simp [fixStep, H0.out, H2.out]))
        go_wp2_with fail
        go_roundw
        case rel => exact ⟨0 + 1, by omega, by go_num, by rw [HSE.out]; exact HO.out, HW.out⟩
        case measure => simp [intOf]; omega
      · have hw' := beq_no hw
        have HNW := Lib.hid hw
        clear hw
        by_cases h0 : cs[0].width = 0
        · have h0' := beq_yes h0
          have h2' : (cs[0].width == 2) = false := beq_no (by omega)
          have H0 := Lib.hid h0
          clear h0
          have HSE := Lib.hid (show fixStep (if 0 = 0 then none else (fixL cs)[0 - 1]?) cs[0] cs[0 + 1]? = blank cs[0].pen by rw [HPR.out, HNX.out]; simp [fixStep, H0.out])
          go_wp2_with fail
          refine (cellBlank_any _ _).mono ?_
          rintro e w2 ⟨rfl, hb2⟩
          obtain ⟨W, hst, ho2, hg2⟩ := (HO.out.bel hb2).putAt (k := 0) (by rw [HL.out]; exact hlt) (blank cs[0].pen)
          have HO2 := Lib.hid ho2
          have HG2 := Lib.hid hg2
          rw [Nat.zero_mul] at hst
          have hz2 := hb2.size
          clear ho2 hg2
          go_wp2_with fail
          go_roundw
          case rel => exact ⟨0 + 1, by omega, by go_num, by rw [HS.out, HSE.out]; exact HO2.out, below_put (HW.out.trans (hb2.mono HW.out.size)) HG2.out HB.out⟩
          case measure => simp [intOf]; omega
        have h0' := beq_no h0
        have H0 := Lib.hid h0
        clear h0
        by_cases h2 : cs[0].width = 2
        · have h2' := beq_yes h2
          have H2 := Lib.hid h2
          clear h2
          have HSE := Lib.hid (show fixStep (if 0 = 0 then none else (fixL cs)[0 - 1]?) cs[0] cs[0 + 1]? = blank cs[0].pen by rw [HPR.out, HNX.out]; simp [fixStep, H0.out, H2.out, HNW.out])
          go_wp2_with fail
          refine (cellBlank_any _ _).mono ?_
          rintro e w2 ⟨rfl, hb2⟩
          obtain ⟨W, hst, ho2, hg2⟩ := (HO.out.bel hb2).putAt (k := 0) (by rw [HL.out]; exact hlt) (blank cs[0].pen)
          have HO2 := Lib.hid ho2
          have HG2 := Lib.hid hg2
          rw [Nat.zero_mul] at hst
          have hz2 := hb2.size
          clear ho2 hg2
          go_wp2_with fail
          go_roundw
          case rel => exact ⟨0 + 1, by omega, by go_num, by rw [HS.out, HSE.out]; exact HO2.out, below_put (HW.out.trans (hb2.mono HW.out.size)) HG2.out HB.out⟩
          case measure => simp [intOf]; omega
        have h2' := beq_no h2
        have H2 := Lib.hid h2
        clear h2
        have HSE := Lib.hid (fixTo_same hlt (show fixStep (if 0 = 0 then none else (fixL cs)[0 - 1]?) cs[0] cs[0 + 1]? = cs[0] by rw [HPR.out, HNX.out]; simp [fixStep, H0.out, H2.out]))
        go_wp2_with fail
        go_roundw
        case rel => exact ⟨0 + 1, by omega, by go_num, by rw [HSE.out]; exact HO.out, HW.out⟩
        case measure => simp [intOf]; omega
    | succ k =>
      have hk2 : k < (fixL cs).length := by rw [fixL_length]; omega
      have HPR := Lib.hid (show (if k + 1 = 0 then none else (fixL cs)[k + 1 - 1]?) = some (fixL cs)[k] by rw [if_neg (by omega), Nat.add_sub_cancel, List.getElem?_eq_getElem hk2])
      obtain ⟨hpw, hpp, _⟩ := own_elem HR.out (k := k) (by rw [HL.out]; omega) (fixTo_prev hlt (by rw [HL.out]; omega) hk2)
      by_cases hq : (fixL cs)[k].width = 2
      · have hq' := beq_yes hq
        have HQ := Lib.hid hq
        clear hq
        by_cases hnx : (k + 1) + 1 < cs.length
        case neg =>
          have HNX := Lib.hid (show cs[(k + 1) + 1]? = none from List.getElem?_eq_none (by omega))
          by_cases h0 : cs[(k + 1)].width = 0
          · have h0' := beq_yes h0
            have h2' : (cs[(k + 1)].width == 2) = false := beq_no (by omega)
            have H0 := Lib.hid h0
            clear h0
            have HSE := Lib.hid (show fixStep (if (k + 1) = 0 then none else (fixL cs)[(k + 1) - 1]?) cs[(k + 1)] cs[(k + 1) + 1]? = spacer (fixL cs)[k].pen by rw [HPR.out, HNX.out]; simp [fixStep, H0.out, HQ.out])
            go_wp2_with fail
            refine (cellSpacer_any _ _).mono ?_
            rintro e w2 ⟨rfl, hb2⟩
            obtain ⟨W, hst, ho2, hg2⟩ := (HO.out.bel hb2).putAt (k := (k + 1)) (by rw [HL.out]; exact hlt) (spacer (fixL cs)[k].pen)
            have HO2 := Lib.hid ho2
            have HG2 := Lib.hid hg2
            have hz2 := hb2.size
            clear ho2 hg2
            go_wp2_with fail
            go_roundw
            case rel => exact ⟨(k + 1) + 1, by omega, by go_num, by rw [HS.out, HSE.out]; exact HO2.out, below_put (HW.out.trans (hb2.mono HW.out.size)) HG2.out HB.out⟩
            case measure => simp [intOf]; omega
          have h0' := beq_no h0
          have H0 := Lib.hid h0
          clear h0
          by_cases h2 : cs[(k + 1)].width = 2
          · have h2' := beq_yes h2
            have H2 := Lib.hid h2
            clear h2
            have HSE := Lib.hid (show fixStep (if (k + 1) = 0 then none else (fixL cs)[(k + 1) - 1]?) cs[(k + 1)] cs[(k + 1) + 1]? = blank cs[(k + 1)].pen by rw [HPR.out, HNX.out]; simp [fixStep, H0.out, H2.out])
            go_wp2_with fail
            refine (cellBlank_any _ _).mono ?_
            rintro e w2 ⟨rfl, hb2⟩
            obtain ⟨W, hst, ho2, hg2⟩ := (HO.out.bel hb2).putAt (k := (k + 1)) (by rw [HL.out]; exact hlt) (blank cs[(k + 1)].pen)
            have HO2 := Lib.hid ho2
            have HG2 := Lib.hid hg2
            have hz2 := hb2.size
            clear ho2 hg2
            go_wp2_with fail
            go_roundw
            case rel => exact ⟨(k + 1) + 1, by omega, by go_num, by rw [HS.out, HSE.out]; exact HO2.out, below_put (HW.out.trans (hb2.mono HW.out.size)) HG2.out HB.out⟩
            case measure => simp [intOf]; omega
          have h2' := beq_no h2
          have H2 := Lib.hid h2
          clear h2
          have HSE := Lib.hid (fixTo_same hlt (show fixStep (if (k + 1) = 0 then none else (fixL cs)[(k + 1) - 1]?) cs[(k + 1)] cs[(k + 1) + 1]? = cs[(k + 1)] by rw [HPR.out, HNX.out]; simp [fixStep, H0.out, H2.out]))
          go_wp2_with fail
          go_roundw
          case rel => exact ⟨(k + 1) + 1, by omega, by go_num, by rw [HSE.out]; exact HO.out, HW.out⟩
          case measure => simp [intOf]; omega
        have HNX := Lib.hid (List.getElem?_eq_getElem hnx)
        obtain ⟨hnw, _, _⟩ := own_elem HR.out (by rw [HL.out]; exact hnx) (fixTo_next hnx (by rw [HL.out]; exact hnx))
        by_cases hw : cs[(k + 1) + 1].width = 0
        · have hw' := beq_yes hw
          have HNW := Lib.hid hw
          clear hw
          by_cases h0 : cs[(k + 1)].width = 0
          · have h0' := beq_yes h0
            have h2' : (cs[(k + 1)].width == 2) = false := beq_no (by omega)
            have H0 := Lib.hid h0
            clear h0
            have HSE := Lib.hid (show fixStep (if (k + 1) = 0 then none else (fixL cs)[(k + 1) - 1]?) cs[(k + 1)] cs[(k + 1) + 1]? = spacer (fixL cs)[k].pen by rw [HPR.out, HNX.out]; simp [fixStep, H0.out, HQ.out])
            go_wp2_with fail
            refine (cellSpacer_any _ _).mono ?_
            rintro e w2 ⟨rfl, hb2⟩
            obtain ⟨W, hst, ho2, hg2⟩ := (HO.out.bel hb2).putAt (k := (k + 1)) (by rw [HL.out]; exact hlt) (spacer (fixL cs)[k].pen)
            have HO2 := Lib.hid ho2
            have HG2 := Lib.hid hg2
            have hz2 := hb2.size
            clear ho2 hg2
            go_wp2_with fail
            go_roundw
            case rel => exact ⟨(k + 1) + 1, by omega, by go_num, by rw [HS.out, HSE.out]; exact HO2.out, below_put (HW.out.trans (hb2.mono HW.out.size)) HG2.out HB.out⟩
            case measure => simp [intOf]; omega
          have h0' := beq_no h0
          have H0 := Lib.hid h0
          clear h0
          by_cases h2 : cs[(k + 1)].width = 2
          · have h2' := beq_yes h2
            have H2 := Lib.hid h2
            clear h2
            have HSE := Lib.hid (fixTo_same hlt (show fixStep (if (k + 1) = 0 then none else (fixL cs)[(k + 1) - 1]?) cs[(k + 1)] cs[(k + 1) + 1]? = cs[(k + 1)] by rw [HPR.out, HNX.out]; simp [fixStep, H0.out, H2.out, HNW.out]))
            go_wp2_with fail
            go_roundw
            case rel => exact ⟨(k + 1) + 1, by omega, by go_num, by rw [HSE.out]; exact HO.out, HW.out⟩
            case measure => simp [intOf]; omega
          have h2' := beq_no h2
          have H2 := Lib.hid h2
          clear h2
          have HSE := Lib.hid (fixTo_same hlt (show fixStep (if (k + 1) = 0 then none else (fixL cs)[(k + 1) - 1]?) cs[(k + 1)] cs[(k + 1) + 1]? = cs[(k + 1)] by rw [HPR.out, HNX.out]; simp [fixStep, H0.out, H2.out]))
          go_wp2_with fail
          go_roundw
          case rel => exact ⟨(k + 1) + 1, by omega, by go_num, by rw [HSE.out]; exact HO.out, HW.out⟩
          case measure => simp [intOf]; omega
        · have hw' := beq_no hw
          have HNW := Lib.hid hw
          clear hw
          by_cases h0 : cs[(k + 1)].width = 0
          · have h0' := beq_yes h0
            have h2' : (cs[(k + 1)].width == 2) = false := beq_no (by omega)
            have H0 := Lib.hid h0
            clear h0
            have HSE := Lib.hid (show fixStep (if (k + 1) = 0 then none else (fixL cs)[(k + 1) - 1]?) cs[(k + 1)] cs[(k + 1) + 1]? = spacer (fixL cs)[k].pen by rw [HPR.out, HNX.out]; simp [fixStep, H0.out, HQ.out])
            go_wp2_with fail
            refine (cellSpacer_any _ _).mono ?_
            rintro e w2 ⟨rfl, hb2⟩
            obtain ⟨W, hst, ho2, hg2⟩ := (HO.out.bel hb2).putAt (k := (k + 1)) (by rw [HL.out]; exact hlt) (spacer (fixL cs)[k].pen)
            have HO2 := Lib.hid ho2
            have HG2 := Lib.hid hg2
            have hz2 := hb2.size
            clear ho2 hg2
            go_wp2_with fail
            go_roundw
            case rel => exact ⟨(k + 1) + 1, by omega, by go_num, by rw [HS.out, HSE.out]; exact HO2.out, below_put (HW.out.trans (hb2.mono HW.out.size)) HG2.out HB.out⟩
            case measure => simp [intOf]; omega
          have h0' := beq_no h0
          have H0 := Lib.hid h0
          clear h0
          by_cases h2 : cs[(k + 1)].width = 2
          · have h2' := beq_yes h2
            have H2 := Lib.hid h2
            clear h2
            have HSE := Lib.hid (show fixStep (if (k + 1) = 0 then none else (fixL cs)[(k + 1) - 1]?) cs[(k + 1)] cs[(k + 1) + 1]? = blank cs[(k + 1)].pen by rw [HPR.out, HNX.out]; simp [fixStep, H0.out, H2.out, HNW.out])
            go_wp2_with fail
            refine (cellBlank_any _ _).mono ?_
            rintro e w2 ⟨rfl, hb2⟩
            obtain ⟨W, hst, ho2, hg2⟩ := (HO.out.bel hb2).putAt (k := (k + 1)) (by rw [HL.out]; exact hlt) (blank cs[(k + 1)].pen)
            have HO2 := Lib.hid ho2
            have HG2 := Lib.hid hg2
            have hz2 := hb2.size
            clear ho2 hg2
            go_wp2_with fail
            go_roundw
            case rel => exact ⟨(k + 1) + 1, by omega, by go_num, by rw [HS.out, HSE.out]; exact HO2.out, below_put (HW.out.trans (hb2.mono HW.out.size)) HG2.out HB.out⟩
            case measure => simp [intOf]; omega
          have h2' := beq_no h2
          have H2 := Lib.hid h2
          clear h2
          have HSE := Lib.hid (fixTo_same hlt (show fixStep (if (k + 1) = 0 then none else (fixL cs)[(k + 1) - 1]?) cs[(k + 1)] cs[(k + 1) + 1]? = cs[(k + 1)] by rw [HPR.out, HNX.out]; simp [fixStep, H0.out, H2.out]))
          go_wp2_with fail
          go_roundw
          case rel => exact ⟨(k + 1) + 1, by omega, by go_num, by rw [HSE.out]; exact HO.out, HW.out⟩
          case measure => simp [intOf]; omega
      · have hq' := beq_no hq
        have HQ := Lib.hid hq
        clear hq
        by_cases hnx : (k + 1) + 1 < cs.length
        case neg =>
          have HNX := Lib.hid (show cs[(k + 1) + 1]? = none from List.getElem?_eq_none (by omega))
          by_cases h0 : cs[(k + 1)].width = 0
          · have h0' := beq_yes h0
            have h2' : (cs[(k + 1)].width == 2) = false := beq_no (by omega)
            have H0 := Lib.hid h0
            clear h0
            have HSE := Lib.hid (show fixStep (if (k + 1) = 0 then none else (fixL cs)[(k + 1) - 1]?) cs[(k + 1)] cs[(k + 1) + 1]? = blank cs[(k + 1)].pen by rw [HPR.out, HNX.out]; simp [fixStep, H0.out, HQ.out])
            go_wp2_with fail
            refine (cellBlank_any _ _).mono ?_
            rintro e w2 ⟨rfl, hb2⟩
            obtain ⟨W, hst, ho2, hg2⟩ := (HO.out.bel hb2).putAt (k := (k + 1)) (by rw [HL.out]; exact hlt) (blank cs[(k + 1)].pen)
            have HO2 := Lib.hid ho2
            have HG2 := Lib.hid hg2
            have hz2 := hb2.size
            clear ho2 hg2
            go_wp2_with fail
            go_roundw
            case rel => exact ⟨(k + 1) + 1, by omega, by go_num, by rw [HS.out, HSE.out]; exact HO2.out, below_put (HW.out.trans (hb2.mono HW.out.size)) HG2.out HB.out⟩
            case measure => simp [intOf]; omega
          have h0' := beq_no h0
          have H0 := Lib.hid h0
          clear h0
          by_cases h2 : cs[(k + 1)].width = 2
          · have h2' := beq_yes h2
            have H2 := Lib.hid h2
            clear h2
            have HSE := Lib.hid (show fixStep (if (k + 1) = 0 then none else (fixL cs)[(k + 1) - 1]?) cs[(k + 1)] cs[(k + 1) + 1]? = blank cs[(k + 1)].pen by rw [HPR.out, HNX.out]; simp [fixStep, H0.out, H2.out])
            go_wp2_with fail
            refine (cellBlank_any _ _).mono ?_
            rintro e w2 ⟨rfl, hb2⟩
            obtain ⟨W, hst, ho2, hg2⟩ := (HO.out.bel hb2).putAt (k := (k + 1)) (by rw [HL.out]; exact hlt) (blank cs[(k + 1)].pen)
            have HO2 := Lib.hid ho2
            have HG2 := Lib.hid hg2
            have hz2 := hb2.size
            clear ho2 hg2
            go_wp2_with fail
            go_roundw
            case rel => exact ⟨(k + 1) + 1, by omega, by go_num, by rw [HS.out, HSE.out]; exact HO2.out, below_put (HW.out.trans (hb2.mono HW.out.size)) HG2.out HB.out⟩
            case measure => simp [intOf]; omega
          have h2' := beq_no h2
          have H2 := Lib.hid h2
          clear h2
          have HSE := Lib.hid (fixTo_same hlt (show fixStep (if (k + 1) = 0 then none else (fixL cs)[(k + 1) - 1]?) cs[(k + 1)] cs[(k + 1) + 1]? = cs[(k + 1)] by rw [HPR.out, HNX.out]; simp [fixStep, H0.out, H2.out]))
          go_wp2_with fail
          go_roundw
          case rel => exact ⟨(k + 1) + 1, by omega, by go_num, by rw [HSE.out]; exact HO.out, HW.out⟩
          case measure => simp [intOf]; omega
        have HNX := Lib.hid (List.getElem?_eq_getElem hnx)
        obtain ⟨hnw, _, _⟩ := own_elem HR.out (by rw [HL.out]; exact hnx) (fixTo_next hnx (by rw [HL.out]; exact hnx))
        by_cases hw : cs[(k + 1) + 1].width = 0
        · have hw' := beq_yes hw
          have HNW := Lib.hid hw
          clear hw
          by_cases h0 : cs[(k + 1)].width = 0
          · have h0' := beq_yes h0
            have h2' : (cs[(k + 1)].width == 2) = false := beq_no (by omega)
            have H0 := Lib.hid h0
            clear h0
            have HSE := Lib.hid (show fixStep (if (k + 1) = 0 then none else (fixL cs)[(k + 1) - 1]?) cs[(k + 1)] cs[(k + 1) + 1]? = blank cs[(k + 1)].pen by rw [HPR.out, HNX.out]; simp [fixStep, H0.out, HQ.out])
            go_wp2_with fail
            refine (cellBlank_any _ _).mono ?_
            rintro e w2 ⟨rfl, hb2⟩
            obtain ⟨W, hst, ho2, hg2⟩ := (HO.out.bel hb2).putAt (k := (k + 1)) (by rw [HL.out]; exact hlt) (blank cs[(k + 1)].pen)
            have HO2 := Lib.hid ho2
            have HG2 := Lib.hid hg2
            have hz2 := hb2.size
            clear ho2 hg2
            go_wp2_with fail
            go_roundw
            case rel => exact ⟨(k + 1) + 1, by omega, by go_num, by rw [HS.out, HSE.out]; exact HO2.out, below_put (HW.out.trans (hb2.mono HW.out.size)) HG2.out HB.out⟩
            case measure => simp [intOf]; omega
          have h0' := beq_no h0
          have H0 := Lib.hid h0
          clear h0
          by_cases h2 : cs[(k + 1)].width = 2
          · have h2' := beq_yes h2
            have H2 := Lib.hid h2
            clear h2
            have HSE := Lib.hid (fixTo_same hlt (show fixStep (if (k + 1) = 0 then none else (fixL cs)[(k + 1) - 1]?) cs[(k + 1)] cs[(k + 1) + 1]? = cs[(k + 1)] by rw [HPR.out, HNX.out]; simp [fixStep, H0.out, H2.out, HNW.out]))
            go_wp2_with fail
            go_roundw
            case rel => exact ⟨(k + 1) + 1, by omega, by go_num, by rw [HSE.out]; exact HO.out, HW.out⟩
            case measure => simp [intOf]; omega
          have h2' := beq_no h2
          have H2 := Lib.hid h2
          clear h2
          have HSE := Lib.hid (fixTo_same hlt (show fixStep (if (k + 1) = 0 then none else (fixL cs)[(k + 1) - 1]?) cs[(k + 1)] cs[(k + 1) + 1]? = cs[(k + 1)] by rw [HPR.out, HNX.out]; simp [fixStep, H0.out, H2.out]))
          go_wp2_with fail
          go_roundw
          case rel => exact ⟨(k + 1) + 1, by omega, by go_num, by rw [HSE.out]; exact HO.out, HW.out⟩
          case measure => simp [intOf]; omega
        · have hw' := beq_no hw
          have HNW := Lib.hid hw
          clear hw
          by_cases h0 : cs[(k + 1)].width = 0
          · have h0' := beq_yes h0
            have h2' : (cs[(k + 1)].width == 2) = false := beq_no (by omega)
            have H0 := Lib.hid h0
            clear h0
            have HSE := Lib.hid (show fixStep (if (k + 1) = 0 then none else (fixL cs)[(k + 1) - 1]?) cs[(k + 1)] cs[(k + 1) + 1]? = blank cs[(k + 1)].pen by rw [HPR.out, HNX.out]; simp [fixStep, H0.out, HQ.out])
            go_wp2_with fail
            refine (cellBlank_any _ _).mono ?_
            rintro e w2 ⟨rfl, hb2⟩
            obtain ⟨W, hst, ho2, hg2⟩ := (HO.out.bel hb2).putAt (k := (k + 1)) (by rw [HL.out]; exact hlt) (blank cs[(k + 1)].pen)
            have HO2 := Lib.hid ho2
            have HG2 := Lib.hid hg2
            have hz2 := hb2.size
            clear ho2 hg2
            go_wp2_with fail
            go_roundw
            case rel => exact ⟨(k + 1) + 1, by omega, by go_num, by rw [HS.out, HSE.out]; exact HO2.out, below_put (HW.out.trans (hb2.mono HW.out.size)) HG2.out HB.out⟩
            case measure => simp [intOf]; omega
          have h0' := beq_no h0
          have H0 := Lib.hid h0
          clear h0
          by_cases h2 : cs[(k + 1)].width = 2
          · have h2' := beq_yes h2
            have H2 := Lib.hid h2
            clear h2
            have HSE := Lib.hid (show fixStep (if (k + 1) = 0 then none else (fixL cs)[(k + 1) - 1]?) cs[(k + 1)] cs[(k + 1) + 1]? = blank cs[(k + 1)].pen by rw [HPR.out, HNX.out]; simp [fixStep, H0.out, H2.out, HNW.out])
            go_wp2_with fail
            refine (cellBlank_any _ _).mono ?_
            rintro e w2 ⟨rfl, hb2⟩
            obtain ⟨W, hst, ho2, hg2⟩ := (HO.out.bel hb2).putAt (k := (k + 1)) (by rw [HL.out]; exact hlt) (blank cs[(k + 1)].pen)
            have HO2 := Lib.hid ho2
            have HG2 := Lib.hid hg2
            have hz2 := hb2.size
            clear ho2 hg2
            go_wp2_with fail
            go_roundw
            case rel => exact ⟨(k + 1) + 1, by omega, by go_num, by rw [HS.out, HSE.out]; exact HO2.out, below_put (HW.out.trans (hb2.mono HW.out.size)) HG2.out HB.out⟩
            case measure => simp [intOf]; omega
          have h2' := beq_no h2
          have H2 := Lib.hid h2
          clear h2
          have HSE := Lib.hid (fixTo_same hlt (show fixStep (if (k + 1) = 0 then none else (fixL cs)[(k + 1) - 1]?) cs[(k + 1)] cs[(k + 1) + 1]? = cs[(k + 1)] by rw [HPR.out, HNX.out]; simp [fixStep, H0.out, H2.out]))
          go_wp2_with fail
          go_roundw
          case rel => exact ⟨(k + 1) + 1, by omega, by go_num, by rw [HSE.out]; exact HO.out, HW.out⟩
          case measure => simp [intOf]; omega
end Go.Proofs.YtjligfbaljnhnaaDoor

/-
  The reference's Fix.
-/
set_option linter.unusedSimpArgs false
set_option linter.unusedVariables false
namespace Go.Proofs.YtjligfbaljnhnaaDoor
open Go.RowKit

theorem RdC.one (w : World) (d : Cell) : RdC (w.alloc (.cells (cv d) 65)) (some ⟨w.heap.size, 0, none⟩) 1 [d] :=
  ⟨Nat.le_refl _, (fun h => by cases h), fun _ => ⟨w.heap.size, 0, rfl, by simp, by have := rangeAt_new w (cv d) 65; simpa [flat] using this⟩⟩
theorem RdC.one' (w : World) (o : Obj) (d : Cell) : RdC ((w.alloc o).alloc (.cells (cv d) 65)) (some ⟨w.heap.size + 1, 0, none⟩) 1 [d] := by
  have := RdC.one (w.alloc o) d
  simpa using this
theorem take_get {l : List Cell} {k j : Nat} (h : k ≤ l.length) (hj : j < k) (h1 : j < (l.take k).length) (h2 : j < l.length) : (l.take k)[j] = l[j] := by simp
/-- A round's end: what was appended, and what stands. -/
theorem fix_app {w wr w1 : World} {cs : List Cell} {k : Nat} {v v' : Value} {o o2 : Obj} {d : Cell} (hlt : k < cs.length) (hb : Below w.heap.size w wr) (ho : OwnC wr w.heap.size v ((fixL cs).take k))
    (hd : (fixL cs)[k]? = some d) (h1 : OwnC w1 w.heap.size v' ((fixL cs).take k ++ [d])) (hg : ((wr.alloc o).alloc o2).grownBy w1 v.ownBlock) :
    OwnC w1 w.heap.size v' ((fixL cs).take (k + 1)) ∧ Below w.heap.size w w1 := by
  have hl : k < (fixL cs).length := by rw [fixL_length]; exact hlt
  have hz := hb.size
  refine ⟨?_, ((hb.alloc hz _).alloc (by simp; omega) _).grown hg (by simp; omega) (fun q hq => (World.ownsRow.lt ho q hq).1)⟩
  rw [List.take_succ_eq_append_getElem hl]
  rw [List.getElem?_eq_getElem hl] at hd
  rw [Option.some.inj hd]
  exact h1
theorem fixL_step {cs : List Cell} {k : Nat} (h : k < cs.length) : (fixL cs)[k]? = some (fixStep (if k = 0 then none else (fixL cs)[k - 1]?) cs[k] cs[k + 1]?) := fixGo_get none cs k h

end Go.Proofs.YtjligfbaljnhnaaDoor

/-
  The reference's Same of two lists of cells, and Stain.
-/
set_option linter.unusedSimpArgs false
set_option linter.unusedVariables false
namespace Go.Proofs.YtjligfbaljnhnaaDoor
open Go.RowKit

theorem upto_eq {xs ys : List Cell} (hl : xs.length = ys.length) (h : ∀ k, k < xs.length → xs[k]? = ys[k]?) : xs = ys := by
  apply List.ext_getElem? fun k => ?_
  rcases Nat.lt_or_ge k xs.length with hk | hk
  · exact h k hk
  · rw [List.getElem?_eq_none hk, List.getElem?_eq_none (by omega)]

def stainC (c : Cell) : Cell := { c with rune := IntKind.i32.wrap (c.rune + 1), width := IntKind.i64.wrap (c.width + 1) }
end Go.Proofs.YtjligfbaljnhnaaDoor

/-
  More rules of the walk on whole cells: stored into any block that is known to be one cell; a pen stored into a cell; literals of slices of cells.
-/
set_option linter.unusedSimpArgs false
set_option linter.unusedVariables false
namespace Go.Proofs.YtjligfbaljnhnaaDoor
open Go.RowKit

/-- Block b is one variable of n cells of type t, none frozen. -/
def okBlk (w : World) (b n : Nat) (t : TypeId) : Bool := match w.heap[b]? with
  | some (.cells zs u fr) => decide (zs.size = n) && decide (u = t) && decide (fr = (0, 0))
  | _ => false
theorem okBlk_iff {w : World} {b n : Nat} {t : TypeId} : okBlk w b n t = true ↔ ∃ zs, Blk w b t zs ∧ zs.size = n := by
  unfold okBlk Blk
  constructor
  · intro h
    split at h
    · rename_i zs u fr hb
      simp only [Bool.and_eq_true, decide_eq_true_eq] at h
      obtain ⟨⟨h1, rfl⟩, rfl⟩ := h
      exact ⟨zs, hb, h1⟩
    · cases h
  · rintro ⟨zs, hb, hz⟩
    simp [hb, hz]
theorem Blk.okBlk {w : World} {b : Nat} {t : TypeId} {cs : Array Value} (h : Blk w b t cs) : okBlk w b cs.size t = true := okBlk_iff.2 ⟨cs, h, rfl⟩
@[go_sem] theorem okBlk_alloc (w : World) (o : Obj) (b n : Nat) (t : TypeId) (h : b < w.heap.size) : okBlk (w.alloc o) b n t = okBlk w b n t := by
  unfold okBlk; rw [Below.heap_alloc w o b h]
@[go_sem] theorem okBlk_new {b : Nat} (w : World) (cs : Array Value) (t : TypeId) (n : Nat) (hb : b = w.heap.size) : okBlk (w.alloc (.cells cs t)) b n t = decide (cs.size = n) := by
  subst hb; unfold okBlk; rw [heap_alloc_new]; simp
@[go_sem] theorem setRow_alloc_lt (w : World) (o : Obj) (g : Nat) (cs : Array Value) (h : g < w.heap.size) : (w.alloc o).setRow g cs = (w.setRow g cs).alloc o := by
  simp only [World.setRow, World.alloc]
  congr 1
  apply Array.ext_getElem?
  intro i
  simp only [Array.getElem?_modify, Array.getElem?_push, Array.size_modify]
  by_cases hi : g = i
  · subst hi; simp [show ¬ g = w.heap.size by omega]
  · simp [hi]
@[go_sem] theorem setRow_alloc_at {b : Nat} (w : World) (c c' : Array Value) (t : TypeId) (hb : b = w.heap.size) : (w.alloc (.cells c t)).setRow b c' = w.alloc (.cells c' t) := by
  subst hb; exact World.setRow_alloc_new w c c' t
@[go_sem] theorem okBlk_drew (w : World) (b n : Nat) (t : TypeId) : okBlk w.drew b n t = okBlk w b n t := rfl
@[go_sem] theorem setRow_drew (w : World) (g : Nat) (cs : Array Value) : w.drew.setRow g cs = (w.setRow g cs).drew := rfl
@[go_sem] theorem store_cv_any (w : World) (b : Nat) (c : Cell) (h : okBlk w b 16 65 = true) : (storeCells ⟨b, 0, none⟩ (cv c).toList 0).run Tryd.prog w = .ok () (w.setRow b (cv c)) := by
  obtain ⟨zs, hb, hz⟩ := okBlk_iff.1 h
  exact store_cv_row w b zs c hb hz
@[go_sem] theorem store_pv_any (w : World) (b : Nat) (p : Pen) (h : okBlk w b 11 29 = true) : (storeCells ⟨b, 0, none⟩ (pv p).toList 0).run Tryd.prog w = .ok () (w.setRow b (pv p)) := by
  obtain ⟨zs, hb, hz⟩ := okBlk_iff.1 h
  have := run_storeCells_at (P := Tryd.prog) b 0 29 (pv p).toList 0 zs w hb (by simp [pv_size, hz]) (pv_one p)
  rw [this]
  simp [pv_size, List.drop_eq_nil_of_le, hz]
theorem cv_putPen (c : Cell) (p : Pen) : ((cv c).toList.take 5 ++ (pv p).toList ++ (cv c).toList.drop 16).toArray = cv { c with pen := p } := by simp [cv, pv]
@[go_sem] theorem store_pen_new {b : Nat} (w : World) (c : Cell) (p : Pen) (hb : b = w.heap.size) : (storeCells ⟨b, 5, none⟩ (pv p).toList 0).run Tryd.prog (w.alloc (.cells (cv c) 65)) = .ok () (w.alloc (.cells (cv { c with pen := p }) 65)) := by
  subst hb
  have := run_storeCells_at (P := Tryd.prog) w.heap.size 5 65 (pv p).toList 0 (cv c) _ (heap_alloc_new w (.cells (cv c) 65)) (by simp [pv_size, cv_size]) (pv_one p)
  rw [this]
  simp only [Nat.add_zero, Array.length_toList, pv_size]
  rw [cv_putPen, World.setRow_alloc_new]

@[simp high, go_sem high] theorem pv_set10 (p : Pen) (n : Int) : (pv p).setIfInBounds 10 (.int .u8 n) = pv { p with fl := n } := by simp [pv]
/-- Some cells, one behind the other, as a block. -/
def fv (cs : List Cell) : Array Value := (flat cs).toArray
theorem RdC.lit (w : World) (cs : List Cell) : RdC (w.alloc (.cells (fv cs) 65)) (some ⟨w.heap.size, 0, none⟩) cs.length cs :=
  ⟨Nat.le_refl _, (fun h => by cases h), fun _ => ⟨w.heap.size, 0, rfl, by simp, by have := rangeAt_new w (fv cs) 65; simpa [fv] using this⟩⟩
theorem OwnC.lit (w : World) (B : Nat) (cs : List Cell) (hB : B ≤ w.heap.size) (hn : cs.length ≤ 1000000) : OwnC (w.alloc (.cells (fv cs) 65)) B (.slice (some ⟨w.heap.size, 0, none⟩) cs.length cs.length) cs :=
  ⟨flat_length cs, .inr ⟨w.heap.size, cs.length, fv cs, rfl, hB, heap_alloc_new w _, Nat.le_refl _, by simp only [maxLen]; omega, by simp [fv, flat_length], by simp [fv, flat_length, List.take_of_length_le]⟩⟩
section
variable {ops : Array Oper} {rest : List Oper} {o : Oper} {a : Act} {w : World} {Q : Exit → Act → World → Prop}
theorem wpList_run {w' : World} {v : Value} (hw : Region.wanted o (yielded ops a.tmps) = true) (hr : (execOp a.eval o).run Tryd.prog w = .ok (.value v) w') (h : wpList Tryd.prog ops Q rest (a.put o.dst v) w') : wpList Tryd.prog ops Q (o :: rest) a w := by
  refine wpList_step fun K hK => ?_
  rw [if_pos hw]
  unfold Oper.wp
  rw [hr]
  exact hK _ _ h
theorem exec_bs {n : Nat} {parts : Array (Nat × Operand)} {vs : Array (Nat × Value)} {v : Value} {w' : World} (ho : o.op = .buildSlice 52 n parts) (hv : (parts.map fun (i, x) => (i, a.eval x)) = vs) (hr : (Instr.buildSlice 52 n vs).run Tryd.prog w = .ok v w') : (execOp a.eval o).run Tryd.prog w = .ok (.value v) w' := by
  subst hv
  unfold execOp
  simp only [ho, Sem.run_bind, hr, Result.andThen_ok, Sem.run_pure]
theorem run_bs1 (c0 : Cell) (w : World) : (Instr.buildSlice 52 1 #[(0, .agg (cv c0))]).run Tryd.prog w = .ok (.slice (some ⟨w.heap.size, 0, none⟩) 1 1) (w.alloc (.cells (fv [c0]) 65)) := by kernel_rfl
theorem wpList_bs1 (hw : Region.wanted o (yielded ops a.tmps) = true) (x0 : Operand) (ho : o.op = .buildSlice 52 1 #[(0, x0)]) (c0 : Cell) (h0 : a.eval x0 = .agg (cv c0))
    (h : wpList Tryd.prog ops Q rest (a.put o.dst (.slice (some ⟨w.heap.size, 0, none⟩) 1 1)) (w.alloc (.cells (fv [c0]) 65))) : wpList Tryd.prog ops Q (o :: rest) a w :=
  wpList_run hw (exec_bs ho (by simp [h0]) (run_bs1 c0 w)) h
theorem run_bs2 (c0 c1 : Cell) (w : World) : (Instr.buildSlice 52 2 #[(0, .agg (cv c0)), (1, .agg (cv c1))]).run Tryd.prog w = .ok (.slice (some ⟨w.heap.size, 0, none⟩) 2 2) (w.alloc (.cells (fv [c0, c1]) 65)) := by kernel_rfl
theorem wpList_bs2 (hw : Region.wanted o (yielded ops a.tmps) = true) (x0 x1 : Operand) (ho : o.op = .buildSlice 52 2 #[(0, x0), (1, x1)]) (c0 c1 : Cell) (h0 : a.eval x0 = .agg (cv c0)) (h1 : a.eval x1 = .agg (cv c1))
    (h : wpList Tryd.prog ops Q rest (a.put o.dst (.slice (some ⟨w.heap.size, 0, none⟩) 2 2)) (w.alloc (.cells (fv [c0, c1]) 65))) : wpList Tryd.prog ops Q (o :: rest) a w :=
  wpList_run hw (exec_bs ho (by simp [h0, h1]) (run_bs2 c0 c1 w)) h
theorem run_bs3 (c0 c1 c2 : Cell) (w : World) : (Instr.buildSlice 52 3 #[(0, .agg (cv c0)), (1, .agg (cv c1)), (2, .agg (cv c2))]).run Tryd.prog w = .ok (.slice (some ⟨w.heap.size, 0, none⟩) 3 3) (w.alloc (.cells (fv [c0, c1, c2]) 65)) := by kernel_rfl
theorem wpList_bs3 (hw : Region.wanted o (yielded ops a.tmps) = true) (x0 x1 x2 : Operand) (ho : o.op = .buildSlice 52 3 #[(0, x0), (1, x1), (2, x2)]) (c0 c1 c2 : Cell) (h0 : a.eval x0 = .agg (cv c0)) (h1 : a.eval x1 = .agg (cv c1)) (h2 : a.eval x2 = .agg (cv c2))
    (h : wpList Tryd.prog ops Q rest (a.put o.dst (.slice (some ⟨w.heap.size, 0, none⟩) 3 3)) (w.alloc (.cells (fv [c0, c1, c2]) 65))) : wpList Tryd.prog ops Q (o :: rest) a w :=
  wpList_run hw (exec_bs ho (by simp [h0, h1, h2]) (run_bs3 c0 c1 c2 w)) h
theorem run_bs4 (c0 c1 c2 c3 : Cell) (w : World) : (Instr.buildSlice 52 4 #[(0, .agg (cv c0)), (1, .agg (cv c1)), (2, .agg (cv c2)), (3, .agg (cv c3))]).run Tryd.prog w = .ok (.slice (some ⟨w.heap.size, 0, none⟩) 4 4) (w.alloc (.cells (fv [c0, c1, c2, c3]) 65)) := by kernel_rfl
theorem wpList_bs4 (hw : Region.wanted o (yielded ops a.tmps) = true) (x0 x1 x2 x3 : Operand) (ho : o.op = .buildSlice 52 4 #[(0, x0), (1, x1), (2, x2), (3, x3)]) (c0 c1 c2 c3 : Cell) (h0 : a.eval x0 = .agg (cv c0)) (h1 : a.eval x1 = .agg (cv c1)) (h2 : a.eval x2 = .agg (cv c2)) (h3 : a.eval x3 = .agg (cv c3))
    (h : wpList Tryd.prog ops Q rest (a.put o.dst (.slice (some ⟨w.heap.size, 0, none⟩) 4 4)) (w.alloc (.cells (fv [c0, c1, c2, c3]) 65))) : wpList Tryd.prog ops Q (o :: rest) a w :=
  wpList_run hw (exec_bs ho (by simp [h0, h1, h2, h3]) (run_bs4 c0 c1 c2 c3 w)) h
theorem run_bs5 (c0 c1 c2 c3 c4 : Cell) (w : World) : (Instr.buildSlice 52 5 #[(0, .agg (cv c0)), (1, .agg (cv c1)), (2, .agg (cv c2)), (3, .agg (cv c3)), (4, .agg (cv c4))]).run Tryd.prog w = .ok (.slice (some ⟨w.heap.size, 0, none⟩) 5 5) (w.alloc (.cells (fv [c0, c1, c2, c3, c4]) 65)) := by kernel_rfl
theorem wpList_bs5 (hw : Region.wanted o (yielded ops a.tmps) = true) (x0 x1 x2 x3 x4 : Operand) (ho : o.op = .buildSlice 52 5 #[(0, x0), (1, x1), (2, x2), (3, x3), (4, x4)]) (c0 c1 c2 c3 c4 : Cell) (h0 : a.eval x0 = .agg (cv c0)) (h1 : a.eval x1 = .agg (cv c1)) (h2 : a.eval x2 = .agg (cv c2)) (h3 : a.eval x3 = .agg (cv c3)) (h4 : a.eval x4 = .agg (cv c4))
    (h : wpList Tryd.prog ops Q rest (a.put o.dst (.slice (some ⟨w.heap.size, 0, none⟩) 5 5)) (w.alloc (.cells (fv [c0, c1, c2, c3, c4]) 65))) : wpList Tryd.prog ops Q (o :: rest) a w :=
  wpList_run hw (exec_bs ho (by simp [h0, h1, h2, h3, h4]) (run_bs5 c0 c1 c2 c3 c4 w)) h
theorem run_bs6 (c0 c1 c2 c3 c4 c5 : Cell) (w : World) : (Instr.buildSlice 52 6 #[(0, .agg (cv c0)), (1, .agg (cv c1)), (2, .agg (cv c2)), (3, .agg (cv c3)), (4, .agg (cv c4)), (5, .agg (cv c5))]).run Tryd.prog w = .ok (.slice (some ⟨w.heap.size, 0, none⟩) 6 6) (w.alloc (.cells (fv [c0, c1, c2, c3, c4, c5]) 65)) := by kernel_rfl
theorem wpList_bs6 (hw : Region.wanted o (yielded ops a.tmps) = true) (x0 x1 x2 x3 x4 x5 : Operand) (ho : o.op = .buildSlice 52 6 #[(0, x0), (1, x1), (2, x2), (3, x3), (4, x4), (5, x5)]) (c0 c1 c2 c3 c4 c5 : Cell) (h0 : a.eval x0 = .agg (cv c0)) (h1 : a.eval x1 = .agg (cv c1)) (h2 : a.eval x2 = .agg (cv c2)) (h3 : a.eval x3 = .agg (cv c3)) (h4 : a.eval x4 = .agg (cv c4)) (h5 : a.eval x5 = .agg (cv c5))
    (h : wpList Tryd.prog ops Q rest (a.put o.dst (.slice (some ⟨w.heap.size, 0, none⟩) 6 6)) (w.alloc (.cells (fv [c0, c1, c2, c3, c4, c5]) 65))) : wpList Tryd.prog ops Q (o :: rest) a w :=
  wpList_run hw (exec_bs ho (by simp [h0, h1, h2, h3, h4, h5]) (run_bs6 c0 c1 c2 c3 c4 c5 w)) h
end
end Go.Proofs.YtjligfbaljnhnaaDoor

/-
  Lines in memory; line.Valid, Used, slices.Clone, and the reference's.
-/
set_option linter.unusedSimpArgs false
set_option linter.unusedVariables false
namespace Go.Proofs.YtjligfbaljnhnaaDoor
open Go.RowKit

theorem bel1 {w w1 : World} {o : Obj} (h : Below (w.alloc o).heap.size (w.alloc o) w1) : Below w.heap.size w w1 := ((Below.refl _ _).alloc (Nat.le_refl _) o).trans (h.mono (by simp))
theorem belA (w : World) (o : Obj) : Below w.heap.size w (w.alloc o) := (Below.refl _ _).alloc (Nat.le_refl _) o
/-- A box that the walk made last, behind a call that only makes memory. -/
theorem box1 {w w2 : World} {c : Array Value} {t : TypeId} (hb : Below (w.alloc (.cells c t)).heap.size (w.alloc (.cells c t)) w2) : Blk w2 w.heap.size t c ∧ Below w.heap.size w w2 :=
  ⟨(Blk.new w t c).bel hb, bel1 hb⟩
/-- Two boxes. -/
theorem box2 {w w2 : World} {c d : Array Value} {t u : TypeId} (hb : Below ((w.alloc (.cells c t)).alloc (.cells d u)).heap.size ((w.alloc (.cells c t)).alloc (.cells d u)) w2) : Blk w2 w.heap.size t c ∧ Blk w2 (w.heap.size + 1) u d ∧ Below w.heap.size w w2 :=
  ⟨((Blk.new w t c).alloc _).bel hb, by have := (Blk.new (w.alloc (.cells c t)) u d).bel hb; simpa using this, bel1 (bel1 hb)⟩

set_option maxHeartbeats 400000 in
theorem lineValid_any (A : Option Addr) (c : Nat) (cs : List Cell) (s : Bool) (w : World) (ht : Tabs w) (ha : RdC w A c cs) (hn : cs.length ≤ 1000000) :
    Calls Tryd.prog 36 #[.agg #[.slice A cs.length c, .bool s]] w fun e w' => e = .returned (.bool (lineOk cs)) ∧ Below w.heap.size w w' := by
  have HT := Lib.hid ht
  have HA := Lib.hid ha
  clear ht ha
  by_cases h : cs.length ≤ 1000
  · have HO := Lib.hid (show lineOk cs = rowOk cs by simp [lineOk, h])
    go_enter Tryd.func36, Tryd.ntmps36
    go_wp2_with fail
    refine (cellRow_any _ _ _ _ (HT.out.bel (belA _ _)) (HA.out.alloc _) hn).mono ?_
    rintro e w1 ⟨rfl, hb⟩
    go_wp2_with fail
    go_ret
    exact ⟨by rw [HO.out]; rfl, bel1 hb⟩
  · have HO := Lib.hid (show lineOk cs = false by simp [lineOk, h])
    go_enter Tryd.func36, Tryd.ntmps36
    go_wp2_with fail
    go_ret
    exact ⟨by rw [HO.out]; rfl, belA _ _⟩
/-- What gives a slice of cells of its own. -/
def OwnEnd (l : List Cell) (w : World) (e : Ending) (w' : World) : Prop := ∃ v, e = .returned v ∧ OwnC w' w.heap.size v l ∧ Below w.heap.size w w'
/-- An empty slice of cells in a block of its own. -/
theorem OwnC.none1 (w : World) (B : Nat) (hB : B ≤ w.heap.size) : OwnC (w.alloc (.cells #[] 65)) B (.slice (some ⟨w.heap.size, 0, none⟩) 0 0) [] :=
  ⟨by simp [flat], .inr ⟨w.heap.size, 0, #[], rfl, hB, heap_alloc_new w _, Nat.le_refl _, by simp [maxLen], by simp, by simp [flat]⟩⟩
theorem eql_nilC (w : World) (a : Option Addr) (n c : Nat) : (binOp .eql 52 (.slice a n c) (.slice none 0 0)).run Tryd.prog w = .ok (.bool a.isNone) w := Lib.run_eql_slice_nil w 52 65 a n c 0 0 Tryd.underlying52
set_option maxRecDepth 100000 in
set_option maxHeartbeats 400000 in
theorem clone_any (A : Option Addr) (c : Nat) (cs : List Cell) (w : World) (ha : RdC w A c cs) (hn : cs.length ≤ 1000000) :
    Calls Tryd.prog 87 #[.slice A cs.length c] w (OwnEnd cs w) := by
  have HA := Lib.hid ha
  have hq := eql_nilC
  cases A with
  | none =>
    obtain rfl := ha.2.1 rfl
    obtain rfl : cs = [] := List.eq_nil_of_length_eq_zero (by have := ha.1; omega)
    clear ha
    go_enter Tryd.func87, Tryd.ntmps87
    go_wp2_with fail
    go_ret
    exact ⟨_, rfl, OwnC.nil _ _, Below.refl _ _⟩
  | some ad =>
    clear ha
    go_enter Tryd.func87, Tryd.ntmps87
    go_wp2_with (at_builtin; (refine wpList_appC rfl _ _ rfl w.heap.size (.slice (some ⟨w.heap.size, 0, none⟩) 0 0) [] rfl (OwnC.none1 w _ (Nat.le_refl _)) (some ad) c cs rfl (HA.out.alloc _) (by simp; omega) (by simp) ?_); intro v1 w1 hown1 hg1 hat1; rw [List.nil_append] at hown1; have HO := Lib.hid hown1; have HB := Lib.hid ((belA w (.cells #[] 65)).grown hg1 (by simp) (by simp [Value.ownBlock])); clear hown1 hg1 hat1)
    go_ret
    exact ⟨_, rfl, HO.out, HB.out⟩

end Go.Proofs.YtjligfbaljnhnaaDoor

/-
  Rows of a call's own at the level of their values: a store into one, a copy within one or into one.
-/
set_option linter.unusedSimpArgs false
set_option linter.unusedVariables false
namespace Go.Proofs.YtjligfbaljnhnaaDoor
open Go.RowKit

/-- Values laid over a list from a place on. -/
def over (xs : List Value) (i : Nat) (vs : List Value) : List Value := xs.take i ++ (vs ++ xs.drop (i + vs.length))
theorem over_length {xs : List Value} {i : Nat} {vs : List Value} (h : i + vs.length ≤ xs.length) : (over xs i vs).length = xs.length := by simp [over]; omega
section
variable {P : Program} {w : World} {B g n k cap : Nat} {t : TypeId} {xs : List Value}
theorem own_parts (h : w.ownsRow B t k (.slice (some ⟨g, 0, none⟩) n cap) n xs) : xs.length = n * k ∧ B ≤ g ∧ n ≤ cap ∧ cap ≤ maxLen ∧ ∃ cur, w.heap[g]? = some (.cells cur t (0, 0)) ∧ cur.size = cap * k ∧ cur.toList.take xs.length = xs := by
  rcases h with ⟨h1, ⟨h', _⟩ | ⟨g', cap', cur, h', hb, hg, hnc, hm, hsz, htk⟩⟩
  · simp at h'
  · simp only [Value.slice.injEq, Option.some.injEq, Addr.mk.injEq, and_true, true_and] at h'
    obtain ⟨rfl, rfl⟩ := h'
    exact ⟨h1, hb, hnc, hm, cur, hg, hsz, by rw [h1]; exact htk⟩
theorem own_mk (h1 : xs.length = n * k) (hb : B ≤ g) (hn : n ≤ cap) (hm : cap ≤ maxLen) {cur : Array Value} (hg : w.heap[g]? = some (.cells cur t (0, 0))) (hsz : cur.size = cap * k) (htk : cur.toList.take xs.length = xs) : w.ownsRow B t k (.slice (some ⟨g, 0, none⟩) n cap) n xs :=
  ⟨h1, .inr ⟨g, cap, cur, rfl, hb, hg, hn, hm, hsz, by rw [← h1]; exact htk⟩⟩
theorem grown_setRow (w : World) (g : Nat) (cs : Array Value) : w.grownBy (w.setRow g cs) (some g) := ⟨rfl, rfl, rfl, by simp [World.setRow], fun i _ hi => setRow_other w g i _ (fun e => hi (by rw [e]))⟩
theorem over_take {cur : List Value} {i : Nat} {vs : List Value} (htk : cur.take xs.length = xs) (hi : i + vs.length ≤ xs.length) : (cur.take i ++ vs ++ cur.drop (i + vs.length)).take (over xs i vs).length = over xs i vs := by
  have hX : cur = xs ++ cur.drop xs.length := by conv => lhs; rw [← List.take_append_drop xs.length cur, htk]
  rw [over_length hi]
  rw [hX, List.take_append_of_le_length (l₂ := cur.drop _) (by omega), List.drop_append_of_le_length (by omega), ← List.append_assoc]
  rw [show xs.take i ++ vs ++ xs.drop (i + vs.length) = over xs i vs from by simp [over]]
  rw [← over_length hi, List.take_left']
  rfl
/-- Values stored into it. -/
theorem own_store (h : w.ownsRow B t k (.slice (some ⟨g, 0, none⟩) n cap) n xs) (i : Nat) (vs : List Value) (hi : i + vs.length ≤ xs.length) (h1 : ∀ v ∈ vs, v.oneCell' = true) :
    ∃ W, (storeCells ⟨g, i, none⟩ vs 0).run P w = .ok () W ∧ W.ownsRow B t k (.slice (some ⟨g, 0, none⟩) n cap) n (over xs i vs) ∧ w.grownBy W (some g) := by
  obtain ⟨hl, hb, hnc, hm, cur, hg, hsz, htk⟩ := own_parts h
  have hcl : xs.length ≤ cur.size := by rw [hl, hsz]; exact Nat.mul_le_mul_right k hnc
  have hs := run_storeCells_at (P := P) g i t vs 0 cur w hg (by omega) h1
  refine ⟨_, hs, own_mk (by rw [over_length hi]; exact hl) hb hnc hm (setRow_heap w g cur _ t _ hg) (by simp; omega) ?_, grown_setRow _ _ _⟩
  simp only [Nat.add_zero]
  exact over_take htk hi
/-- A value that it holds. -/
theorem own_cell (h : w.ownsRow B t k (.slice (some ⟨g, 0, none⟩) n cap) n xs) (i : Nat) (v : Value) (hi : xs[i]? = some v) : w.cell? ⟨g, i, none⟩ = some v := by
  obtain ⟨hl, hb, hnc, hm, cur, hg, hsz, htk⟩ := own_parts h
  rw [cell_of_row _ _ _ _ _ _ hg]
  rw [← htk, List.getElem?_take] at hi
  split at hi
  · simpa using hi
  · cases hi
theorem own_free (h : w.ownsRow B t k (.slice (some ⟨g, 0, none⟩) n cap) n xs) (i : Nat) : w.frozen? ⟨g, i, none⟩ = false := by
  obtain ⟨hl, hb, hnc, hm, cur, hg, hsz, htk⟩ := own_parts h
  simp [World.frozen?, hg]
theorem own_lt (h : w.ownsRow B t k (.slice (some ⟨g, 0, none⟩) n cap) n xs) : g < w.heap.size := by
  obtain ⟨hl, hb, hnc, hm, cur, hg, hsz, htk⟩ := own_parts h
  exact (Array.getElem?_eq_some_iff.1 hg).1
/-- copy(dst, src): dst lies in a row of the call's own, src wherever. -/
theorem run_copyK (w : World) (dT sT ty e : TypeId) (g o dLen dCap : Nat) (a : Addr) (sLen sCap k : Nat) (cur : Array Value) (t : TypeId) (cs : List Value)
    (hu : P.underlying dT = some (.slice e)) (hs : (P.info? e).map (·.size) = some k)
    (hg : w.heap[g]? = some (.cells cur t (0, 0))) (hn : cs.length = Nat.min sLen dLen * k)
    (hsrc : ∀ j v, cs[j]? = some v → w.cell? (a.add j) = some v) (hfit : o + cs.length ≤ cur.size) (h1 : ∀ v ∈ cs, v.oneCell' = true) :
    (Builtin.copy_ #[dT, sT] ty #[.slice (some ⟨g, o, none⟩) dLen dCap, .slice (some a) sLen sCap]).run P w =
      .ok (goInt (Nat.min sLen dLen)) (w.setRow g (cur.toList.take o ++ cs ++ cur.toList.drop (o + cs.length)).toArray) := by
  have hl := run_loadCells_list (P := P) w a cs hsrc
  have hst := run_storeCells_at P g o t cs 0 cur w hg (by simpa using hfit) h1
  cases hq : P.info? e with
  | none => simp [hq] at hs
  | some i =>
    have hi : i.size = k := by simpa [hq] using hs
    simp [Builtin.copy_, run_underlying hu, Builtin.lenOf, Builtin.firstCells, sizeOf, typeInfo, hq, hi, ← hn, hl, hst]
theorem run_copyK_none (w : World) (dT sT ty e : TypeId) (dp sp : Option Addr) (dLen dCap sLen sCap k : Nat) (hu : P.underlying dT = some (.slice e)) (hs : (P.info? e).map (·.size) = some k) (h0 : Nat.min sLen dLen = 0) :
    (Builtin.copy_ #[dT, sT] ty #[.slice dp dLen dCap, .slice sp sLen sCap]).run P w = .ok (goInt 0) w := by
  cases hq : P.info? e with
  | none => simp [hq] at hs
  | some i =>
    have hi : i.size = k := by simpa [hq] using hs
    cases sp <;> cases dp <;> simp [Builtin.copy_, run_underlying hu, Builtin.lenOf, Builtin.firstCells, sizeOf, typeInfo, hq, hi, h0, loadCells, loadCellsFrom, storeCells]
/-- copy into a row of the call's own, at element i, of m elements from wherever. -/
theorem own_copy (h : w.ownsRow B t k (.slice (some ⟨g, 0, none⟩) n cap) n xs) (dT sT ty : TypeId) (hu : P.underlying dT = some (.slice t)) (hs : (P.info? t).map (·.size) = some k)
    (dp sp : Option Addr) (dLen dCap sLen sCap : Nat) (i : Nat) (vs : List Value) (hn : vs.length = Nat.min sLen dLen * k) (hi : i + vs.length ≤ xs.length)
    (hpos : 0 < Nat.min sLen dLen → dp = some ⟨g, i, none⟩ ∧ ∃ ad, sp = some ad ∧ ∀ j v, vs[j]? = some v → w.cell? (ad.add j) = some v) (h1 : ∀ v ∈ vs, v.oneCell' = true) :
    ∃ W, (Builtin.copy_ #[dT, sT] ty #[.slice dp dLen dCap, .slice sp sLen sCap]).run P w = .ok (goInt (Nat.min sLen dLen)) W ∧ W.ownsRow B t k (.slice (some ⟨g, 0, none⟩) n cap) n (over xs i vs) ∧ w.grownBy W (some g) := by
  by_cases h0 : Nat.min sLen dLen = 0
  · have : vs = [] := List.eq_nil_of_length_eq_zero (by rw [hn, h0]; simp)
    subst this
    exact ⟨w, by rw [run_copyK_none w dT sT ty t dp sp dLen dCap sLen sCap k hu hs h0, h0]; rfl, by simpa [over] using h, World.grownBy.refl _ _⟩
  · obtain ⟨rfl, ad, rfl, hsrc⟩ := hpos (by omega)
    obtain ⟨hl, hb, hnc, hm, cur, hg, hsz, htk⟩ := own_parts h
    have hcl : xs.length ≤ cur.size := by rw [hl, hsz]; exact Nat.mul_le_mul_right k hnc
    refine ⟨_, run_copyK w dT sT ty t g i dLen dCap ad sLen sCap k cur t vs hu hs hg hn hsrc (by omega) h1, own_mk (by rw [over_length hi]; exact hl) hb hnc hm (setRow_heap w g cur _ t _ hg) (by simp; omega) (over_take htk hi), grown_setRow _ _ _⟩
end
/-- copy as a step of the walk. -/
theorem wpList_copyK {P : Program} {w W : World} {ops : Array Oper} {rest : List Oper} {o : Oper} {a : Act} {Q : Exit → Act → World → Prop} (hgd : o.guard = none) (d s : Operand) (dT sT : TypeId)
    (ho : o.op = .call { callee := .builtin .copy, args := #[d, s], argTypes := #[dT, sT] }) {vd vs : Value} (hd : a.eval d = vd) (hs : a.eval s = vs) {u : Value}
    (hrun : (Builtin.copy_ #[dT, sT] o.type #[vd, vs]).run P w = .ok u W) (h : wpList P ops Q rest (a.put o.dst u) W) : wpList P ops Q (o :: rest) a w := by
  refine wpList_plain hgd fun K hK => ?_
  unfold Oper.wp
  simp [execOp, ho, resolve, invoke, builtin, hd, hs, hrun, Result.andThen]
  exact hK _ _ h
end Go.Proofs.YtjligfbaljnhnaaDoor

/-
  slices.Repeat of one cell; the line of so many empty cells.
-/
set_option linter.unusedSimpArgs false
set_option linter.unusedVariables false
namespace Go.Proofs.YtjligfbaljnhnaaDoor
open Go.RowKit

theorem and32 (n : Nat) (hn : n ≤ 1000000) : bits .and .u64 (n : Int) 4294967295 = n := by
  rw [show (4294967295 : Int) = ((4294967295 : Nat) : Int) from rfl, u64_and_nat n 4294967295 (by omega) (by omega)]
  congr 1
  rw [show (4294967295 : Nat) = 2 ^ 32 - 1 from rfl, Nat.and_two_pow_sub_one_eq_mod]
  exact Nat.mod_eq_of_lt (by omega)
theorem u64_nat (n : Nat) (hn : n ≤ 1000000) : IntKind.u64.wrap (n : Int) = n := IntWalk.u64_in _ ⟨by omega, by omega⟩
set_option maxHeartbeats 400000 in
theorem mul64_one (n : Nat) (hn : n ≤ 1000000) (w : World) : Calls Tryd.prog 99 #[.int .u64 1, .int .u64 n] w fun e w' => e = .returned (.tuple #[.int .u64 0, .int .u64 n]) ∧ w = w' := by
  have h1 : bits .and .u64 1 4294967295 = 1 := and32 1 (by omega)
  have h2 := and32 n hn
  have h3 : (n : Int) / 4294967296 = 0 := by omega
  have h4 := u64_nat n hn
  have h5 : bits .and .u64 0 4294967295 = 0 := and32 0 (by omega)
  have h6 : IntKind.u64.wrap 0 = 0 := u64_nat 0 (by omega)
  go_enter Tryd.func99, Tryd.ntmps99
  go_wp2_with fail
  go_ret2
  exact ⟨rfl, rfl⟩
set_option maxHeartbeats 400000 in
theorem mul_one_any (n : Nat) (hn : n ≤ 1000000) (w : World) : Calls Tryd.prog 93 #[.int .u64 1, .int .u64 n] w fun e w' => e = .returned (.tuple #[.int .u64 0, .int .u64 n]) ∧ w = w' := by
  go_enter Tryd.func93, Tryd.ntmps93
  go_wp2_with fail
  refine (mul64_one n hn _).mono ?_
  rintro e w1 ⟨rfl, rfl⟩
  go_wp2_with fail
  go_ret2
  exact ⟨rfl, rfl⟩
theorem made_flat (n : Nat) : (madeCells (cv cell0) (n * 16)).toList = flat (List.replicate n cell0) := by
  induction n with
  | zero => simp [madeCells, flat]
  | succ n ih =>
    rw [List.replicate_succ', flat_append, ← ih]
    apply List.ext_getElem?
    intro j
    simp only [madeCells, Array.toList_map, Array.toList_range, List.getElem?_map, List.getElem?_append, List.length_map, List.length_range]
    rcases Nat.lt_or_ge j (n * 16) with h | h
    · rw [if_pos h, List.getElem?_range (by omega), List.getElem?_range h]
    · rw [if_neg (by omega)]
      rcases Nat.lt_or_ge j ((n + 1) * 16) with h2 | h2
      · rw [List.getElem?_range h2]
        have : j % (cv cell0).size = j - n * 16 := by rw [cv_size]; omega
        simp only [Option.map_some, this, flat, List.flatMap_cons, List.flatMap_nil, List.append_nil, Array.getElem?_toList]
        rw [Array.getElem!_eq_getD, Array.getElem?_eq_getElem (by rw [cv_size]; omega)]
        simp
        rw [Array.getElem?_eq_getElem (by rw [cv_size]; omega)]
        rfl
      · rw [List.getElem?_eq_none (by simp; omega), List.getElem?_eq_none (by simp [flat, cv_size]; omega)]
        rfl
theorem own_made (w : World) (n : Nat) (hn : n ≤ 1000000) : OwnC (w.alloc (.cells (madeCells (cv cell0) (n * 16)) 65)) w.heap.size (.slice (some ⟨w.heap.size, 0, none⟩) n n) (List.replicate n cell0) := by
  have := own_mk (w := w.alloc (.cells (madeCells (cv cell0) (n * 16)) 65)) (B := w.heap.size) (g := w.heap.size) (t := 65) (k := 16) (n := n) (cap := n) (xs := flat (List.replicate n cell0)) (by rw [flat_length]; simp) (Nat.le_refl _) (Nat.le_refl _) (by simp [maxLen]; omega) (heap_alloc_new w _) (by simp [madeCells])
    (by rw [made_flat, List.take_length])
  simpa [OwnC] using this
theorem run_makeC (n : Nat) (hn : n ≤ 1000000) (w : World) : (Instr.makeSlice 52 (.int .i64 n) (.int .i64 n)).run Tryd.prog w = .ok (.slice (some ⟨w.heap.size, 0, none⟩) n n) (w.alloc (.cells (madeCells (cv cell0) (n * 16)) 65)) := by
  obtain ⟨i, hi, hz0, hz1, hz2⟩ := info_parts cell_info
  have := run_make (P := Tryd.prog) w 52 65 i (.agg (cv cell0)) Tryd.underlying52 hi hz0 .i64 .i64 (n : Int) (n : Int) (by omega) (Int.le_refl _) (by rw [hz2]; omega) (by omega)
  simpa [hz1, Value.cells] using this
/-- What the rounds of the copying keep. -/
theorem rep_step {c : Cell} {n k m : Nat} (hkn : k + m ≤ n) :
    over (flat (List.replicate k c ++ List.replicate (n - k) cell0)) (k * 16) (flat (List.replicate m c)) = flat (List.replicate (k + m) c ++ List.replicate (n - (k + m)) cell0) := by
  unfold over
  have e1 : (flat (List.replicate k c ++ List.replicate (n - k) cell0)).take (k * 16) = flat (List.replicate k c) := by
    rw [flat_take, List.take_left' (by simp)]
  have e2 : (flat (List.replicate k c ++ List.replicate (n - k) cell0)).drop (k * 16 + (flat (List.replicate m c)).length) = flat (List.replicate (n - (k + m)) cell0) := by
    rw [flat_length, show k * 16 + (List.replicate m c).length * 16 = (k + m) * 16 by simp; omega, flat_drop]
    congr 1
    rw [List.drop_append]
    simp
    omega
  rw [e1, e2, ← flat_append, ← flat_append]
  congr 1
  rw [← List.append_assoc, List.replicate_append_replicate]
def repL (n k : Nat) (c : Cell) : List Cell := List.replicate k c ++ List.replicate (n - k) cell0
theorem repL_length {n k : Nat} (c : Cell) (h : k ≤ n) : (repL n k c).length = n := by simp [repL]; omega
theorem rep_own {w : World} {B n g : Nat} {v : Value} {k : Nat} {c : Cell} (h : k ≤ n) (ho : w.ownsRow B 65 16 v n (flat (repL n k c))) : OwnC w B v (repL n k c) := by
  unfold OwnC; rw [repL_length c h]; exact ho
theorem OwnC_n {w : World} {B n : Nat} {v : Value} {cs : List Cell} (h : OwnC w B v cs) (hn : cs.length = n) : w.ownsRow B 65 16 v n (flat cs) := hn ▸ h
theorem rep_src {w : World} {B g n k m j : Nat} {c : Cell} {v : Value} (h : OwnC w B (.slice (some ⟨g, 0, none⟩) n n) (repL n k c)) (hv : (flat (List.replicate m c))[j]? = some v) (hm : m ≤ k := by omega) : w.cell? ⟨g, j, none⟩ = some v := by
  obtain ⟨g', cap, e, _⟩ := h.blk (by
    rcases Nat.eq_zero_or_pos (repL n k c).length with h0 | h0
    · exfalso
      have : k = 0 := by simp [repL] at h0; omega
      have : m = 0 := by omega
      subst this
      simp [flat] at hv
    · exact h0)
  simp only [Value.slice.injEq, Option.some.injEq, Addr.mk.injEq, and_true, true_and] at e
  obtain ⟨rfl, hl, rfl⟩ := e
  refine own_cell (show w.ownsRow B 65 16 (.slice (some ⟨g, 0, none⟩) n n) n (flat (repL n k c)) from OwnC_n h hl.symm) j v ?_
  have hj : j < (flat (List.replicate m c)).length := (List.getElem?_eq_some_iff.1 hv).1
  unfold repL
  rw [show List.replicate k c = List.replicate m c ++ List.replicate (k - m) c by rw [List.replicate_append_replicate]; congr 1; omega, List.append_assoc, flat_append, List.getElem?_append_left hj]
  exact hv
set_option maxRecDepth 100000 in
set_option maxHeartbeats 1000000 in
theorem repeat_any (c : Cell) (n : Nat) (hn : n ≤ 1000) (A : Option Addr) (cap : Nat) (w : World) (ha : RdC w A cap [c]) :
    Calls Tryd.prog 85 #[.slice A 1 cap, .int .i64 n] w (OwnEnd (List.replicate n c) w) := by
  have HA := Lib.hid ha
  clear ha
  have h4 := u64_nat n (by omega)
  have h1 : IntKind.u64.wrap 1 = 1 := u64_nat 1 (by omega)
  have hmk := run_makeC n (by omega)
  go_enter Tryd.func85, Tryd.ntmps85
  go_wp2_with fail
  refine (mul_one_any n (by omega) _).mono ?_
  rintro e w1 ⟨rfl, rfl⟩
  go_upto_region 7 with (fail)
  clear hmk
  have HO := Lib.hid (own_made w n (by omega))
  have HB := Lib.hid (belA w (.cells (madeCells (cv cell0) (n * 16)) 65))
  generalize w.alloc (.cells (madeCells (cv cell0) (n * 16)) 65) = W at HO HB ⊢
  obtain ⟨W2, hrun, ho2, hg2⟩ := own_copy (P := Tryd.prog) (by have := HO.out; unfold OwnC at this; rwa [List.length_replicate] at this) 52 52 3 Tryd.underlying52 cell_size (some ⟨w.heap.size, 0, none⟩) A n n 1 cap 0 (flat (List.replicate (min 1 n) c)) (by rw [flat_length, List.length_replicate]) (by rw [flat_length, flat_length]; simp; omega)
    (fun hp => ⟨rfl, by
      obtain ⟨b, off, e, hlt, hr⟩ := (HA.out.bel HB.out).2.2 (by simp)
      refine ⟨_, e, fun j v hv => ?_⟩
      rw [add_at]
      have hmin : min 1 n = 1 := by have : 0 < min 1 n := hp; omega
      rw [hmin] at hv
      exact hr j v hv⟩) (flat_one _)
  obtain ⟨k0, hk0⟩ : ∃ k0 : Nat, k0 = min 1 n := ⟨_, rfl⟩
  have hk1 : k0 ≤ n ∧ (0 < k0 ∨ n = 0) := by omega
  rw [show Nat.min 1 n = k0 from hk0.symm] at hrun
  rw [← hk0] at ho2
  have HO2 := Lib.hid (rep_own (g := 0) hk1.1 (show W2.ownsRow w.heap.size 65 16 (.slice (some ⟨w.heap.size, 0, none⟩) n n) n (flat (repL n k0 c)) by
    have := ho2
    have e := rep_step (c := c) (n := n) (k := 0) (m := k0) (by omega)
    simp only [List.replicate_zero, List.nil_append, Nat.sub_zero, Nat.zero_mul, Nat.zero_add] at e
    rw [e] at this
    exact this))
  have HB2 := Lib.hid (HB.out.grown hg2 HB.out.size (fun k hk => by cases hk; exact Nat.le_refl _))
  clear ho2 hg2 HO hk0
  go_wp2_with fail
  go_loopw [8] (fun i wr => ∃ k : Nat, k ≤ n ∧ (0 < k ∨ n = 0) ∧ i = .int .i64 k ∧ OwnC wr w.heap.size (.slice (some ⟨w.heap.size, 0, none⟩) n n) (repL n k c) ∧ Below w.heap.size w wr) (fun i _ => n - (intOf i).toNat)
  case atStart => exact ⟨k0, hk1.1, hk1.2, rfl, HO2.out, HB2.out⟩
  case round =>
    clear HO2 HB2 hrun hk1
    obtain ⟨k, hk, hk2, rfl, ho, hb⟩ := hrel
    have HO := Lib.hid ho
    have HB := Lib.hid hb
    clear ho hb
    by_cases hlt : k < n
    · go_wp2_with fail
      have HN := Lib.hid (show k + min k (n - k) ≤ n ∧ k < k + min k (n - k) by omega)
      refine wp_region_one (by kernel_rfl) (by kernel_rfl) (by kernel_rfl) (fun b => b = w.heap.size)
        [.val (.int .i64 k), .val (.slice (some ⟨w.heap.size, 0, none⟩) n n), .val (.int .i64 k), .val (.slice (some ⟨w.heap.size, k * 16, none⟩) (n - k) (n - k)), .val (.slice (some ⟨w.heap.size, 0, none⟩) n n), .val (.int .i64 k), .val (.slice (some ⟨w.heap.size, 0, none⟩) k n), .val undef, .val (.int .i64 ((k + min k (n - k) : Nat) : Int)), .val (.int .i64 ((k + min k (n - k) : Nat) : Int))] 7
        (fun v wz => v = .int .i64 ((min k (n - k) : Nat) : Int) ∧ OwnC wz w.heap.size (.slice (some ⟨w.heap.size, 0, none⟩) n n) (repL n (k + min k (n - k)) c))
        (fun wz => OwnC wz w.heap.size (.slice (some ⟨w.heap.size, 0, none⟩) n n) (repL n k c)) HO.out (fun _ _ h hb => h.bel hb) (fun _ _ _ h hb => ⟨h.1, h.2.bel hb⟩) ?_ ?_
      · refine RSteps.cons (fun a w' hc hp hk => ?_) ?_
        · have e8 : a.tmps.getD 8 undef = (.int .i64 k : Value) := (rk_old hk 9 rfl (e := ⟨0, .phase⟩) (by simp) rfl rfl rfl).trans rfl
          exact ro_pure (v := .int .i64 k) (wanted_none rfl) (by simp [execOp, Act.eval, e8, go_sem]) rfl (Below.refl _ _)
        refine RSteps.cons (fun a w' hc hp hk => ?_) ?_
        · have e7 : a.tmps.getD 7 undef = (.slice (some ⟨w.heap.size, 0, none⟩) n n : Value) := (rk_same hk 7 (by kernel_rfl)).trans rfl
          exact ro_pure (v := .slice (some ⟨w.heap.size, 0, none⟩) n n) (wanted_none rfl) (by simp [execOp, Act.eval, e7, go_sem]) rfl (Below.refl _ _)
        refine RSteps.cons (fun a w' hc hp hk => ?_) ?_
        · have e8 : a.tmps.getD 8 undef = (.int .i64 k : Value) := (rk_old hk 9 rfl (e := ⟨2, .phase⟩) (by simp) rfl rfl rfl).trans rfl
          exact ro_pure (v := .int .i64 k) (wanted_none rfl) (by simp [execOp, Act.eval, e8, go_sem]) rfl (Below.refl _ _)
        refine RSteps.cons (fun a w' hc hp hk => ?_) ?_
        · have e39 : a.tmps.getD 39 undef = (.slice (some ⟨w.heap.size, 0, none⟩) n n : Value) := (rk_at hk (e := ⟨1, .data⟩) (by simp) rfl rfl rfl)
          have e40 : a.tmps.getD 40 undef = (.int .i64 k : Value) := (rk_at hk (e := ⟨2, .data⟩) (by simp) rfl rfl rfl)
          exact ro_pure (v := .slice (some ⟨w.heap.size, k * 16, none⟩) (n - k) (n - k)) (wanted_none rfl) (by simp [execOp, Act.eval, e39, e40, go_sem, show k ≤ n by omega, show ¬ n = k by omega]) rfl (Below.refl _ _)
        refine RSteps.cons (fun a w' hc hp hk => ?_) ?_
        · have e7 : a.tmps.getD 7 undef = (.slice (some ⟨w.heap.size, 0, none⟩) n n : Value) := (rk_same hk 7 (by kernel_rfl)).trans rfl
          exact ro_pure (v := .slice (some ⟨w.heap.size, 0, none⟩) n n) (wanted_none rfl) (by simp [execOp, Act.eval, e7, go_sem]) rfl (Below.refl _ _)
        refine RSteps.cons (fun a w' hc hp hk => ?_) ?_
        · have e8 : a.tmps.getD 8 undef = (.int .i64 k : Value) := (rk_old hk 9 rfl (e := ⟨5, .phase⟩) (by simp) rfl rfl rfl).trans rfl
          exact ro_pure (v := .int .i64 k) (wanted_none rfl) (by simp [execOp, Act.eval, e8, go_sem]) rfl (Below.refl _ _)
        refine RSteps.cons (fun a w' hc hp hk => ?_) ?_
        · have e42 : a.tmps.getD 42 undef = (.slice (some ⟨w.heap.size, 0, none⟩) n n : Value) := (rk_at hk (e := ⟨4, .data⟩) (by simp) rfl rfl rfl)
          have e43 : a.tmps.getD 43 undef = (.int .i64 k : Value) := (rk_at hk (e := ⟨5, .data⟩) (by simp) rfl rfl rfl)
          exact ro_pure (v := .slice (some ⟨w.heap.size, 0, none⟩) k n) (wanted_none rfl) (by simp [execOp, Act.eval, e42, e43, go_sem, show k ≤ n by omega]) rfl (Below.refl _ _)
        refine RSteps.cons (fun a w' hc hp hk => ?_) ?_
        · have e41 : a.tmps.getD 41 undef = (.slice (some ⟨w.heap.size, k * 16, none⟩) (n - k) (n - k) : Value) := (rk_at hk (e := ⟨3, .data⟩) (by simp) rfl rfl rfl)
          have e44 : a.tmps.getD 44 undef = (.slice (some ⟨w.heap.size, 0, none⟩) k n : Value) := (rk_at hk (e := ⟨6, .data⟩) (by simp) rfl rfl rfl)
          obtain ⟨W2, hrun, ho2, hg2⟩ := own_copy (P := Tryd.prog) (by have := OwnC_n hp (repL_length c (by omega)); exact this) 52 52 3 Tryd.underlying52 cell_size (some ⟨w.heap.size, k * 16, none⟩) (some ⟨w.heap.size, 0, none⟩) (n - k) (n - k) k n (k * 16) (flat (List.replicate (min k (n - k)) c)) (by rw [flat_length, List.length_replicate]) (by rw [flat_length, flat_length, repL_length c (by omega)]; simp; omega)
            (fun _ => ⟨rfl, _, rfl, fun j v hv => by rw [add_at, Nat.zero_add]; exact rep_src hp hv⟩) (flat_one _)
          refine rstep_value (v := .int .i64 ((min k (n - k) : Nat) : Int)) (w2 := W2) (wanted_none rfl) ?_ ⟨rfl, rep_own (g := 0) HN.out.1 (by unfold repL; rw [← rep_step HN.out.1]; exact ho2)⟩ (Chg.of_grown hg2 _ (fun k hk => by cases hk; rfl))
          have hgo : goInt (Nat.min k (n - k) : Nat) = .int .i64 ((min k (n - k) : Nat) : Int) := rfl
          simp [execOp, resolve, invoke, builtin, Act.eval, e41, e44, hrun]
          exact hgo
        refine RSteps.cons (fun a w' hc hp hk => ?_) ?_
        · have e38 : a.tmps.getD 38 undef = (.int .i64 k : Value) := (rk_at hk (e := ⟨0, .data⟩) (by simp) rfl rfl rfl)
          have e45 : a.tmps.getD 45 undef = (.int .i64 ((min k (n - k) : Nat) : Int) : Value) := (rk_at hk (e := ⟨7, .data⟩) (by simp) rfl rfl rfl).1
          exact ro_pure (v := .int .i64 ((k + min k (n - k) : Nat) : Int)) (wanted_none rfl) (by simp [execOp, Act.eval, e38, e45, go_sem, IntWalk.i64_in ((k : Int) + ((min k (n - k) : Nat) : Int)) (by omega)]) rfl (Below.refl _ _)
        refine RSteps.cons (fun a w' hc hp hk => ?_) ?_
        · have e46 : a.tmps.getD 46 undef = (.int .i64 ((k + min k (n - k) : Nat) : Int) : Value) := (rk_at hk (e := ⟨8, .data⟩) (by simp) rfl rfl rfl)
          exact ro_pure (v := .int .i64 ((k + min k (n - k) : Nat) : Int)) (wanted_none rfl) (by simp [execOp, Act.eval, e46, go_sem]) rfl (Below.refl _ _)
        exact RSteps.nil
      · intro vs wz hc hv h7
        have HC := Lib.hid (hc.below (B := w.heap.size) (by have := HB.out.size; exact this) (fun b hb he => by subst he; omega))
        have H7 := Lib.hid (h7 (by decide)).2
        have q9 : vs 9 = .int .i64 ((k + min k (n - k) : Nat) : Int) := hv 9 (by decide) (by decide)
        clear hc hv h7
        simp only [putL, Act.put, q9, List.setIfInBounds_toArray, List.set_cons_succ, List.set_cons_zero]
        clear q9
        generalize k + min k (n - k) = k2 at HN H7 ⊢
        have hn2 := HN.out
        go_wp2_with fail
        go_roundw
        case rel => exact ⟨k2, by omega, by omega, rfl, H7.out, HB.out.trans HC.out⟩
        case measure => simp [intOf]; omega
    · obtain rfl : k = n := by omega
      have HE := Lib.hid (show repL k k c = List.replicate k c by simp [repL])
      go_wp2_with fail
      go_ret
      exact ⟨_, rfl, by rw [← HE.out]; exact HO.out, HB.out⟩
theorem OwnC.low {w : World} {B B' : Nat} {v : Value} {cs : List Cell} (h : OwnC w B v cs) (hB : B' ≤ B) : OwnC w B' v cs := by
  refine ⟨h.1, ?_⟩
  rcases h.2 with h' | ⟨g, cap, cur, h1, h2, h3⟩
  · exact .inl h'
  · exact .inr ⟨g, cap, cur, h1, Nat.le_trans hB h2, h3⟩
set_option maxHeartbeats 400000 in
theorem lineEmpties_any (n : Nat) (hn : n ≤ 1000) (w : World) : Calls Tryd.prog 74 #[.int .i64 n] w (OwnEnd (empties n) w) := by
  go_enter Tryd.func74, Tryd.ntmps74
  go_wp2_with fail
  refine (cellBlank_any _ _).mono ?_
  rintro e w1 ⟨rfl, hb⟩
  have HB := Lib.hid hb
  clear hb
  go_wp2_with (refine wpList_bs1 rfl _ rfl _ rfl ?_)
  refine (repeat_any (blank pen0) n hn _ _ _ (RdC.lit _ [blank pen0])).mono ?_
  rintro e w2 ⟨v, rfl, ho, hb2⟩
  have HO := Lib.hid ho
  have HB2 := Lib.hid hb2
  clear ho hb2
  go_wp2_with fail
  go_ret
  refine ⟨_, rfl, ?_, HB.out.trans ((bel1 HB2.out).mono HB.out.size)⟩
  exact HO.out.low (by have := HB.out.size; simp; omega)
end Go.Proofs.YtjligfbaljnhnaaDoor

/-
  cell.Of; the reference's Stain.
-/
set_option linter.unusedSimpArgs false
set_option linter.unusedVariables false
namespace Go.Proofs.YtjligfbaljnhnaaDoor
open Go.RowKit

def ofCells (r : Int) (p : Pen) : List Cell × Int := if wOf r < 1 ∨ p.ok = false then ([], 2) else if wOf r = 2 then ([⟨r, 0, 0, 0, 2, p⟩, spacer p], 0) else ([⟨r, 0, 0, 0, 1, p⟩], 0)
/-- What gives a slice of cells of its own, and an error. -/
def CellsEnd (l : List Cell) (n : Int) (w : World) (e : Ending) (w' : World) : Prop := ∃ v, e = .returned (.tuple #[v, .int .i64 n]) ∧ OwnC w' w.heap.size v l ∧ Below w.heap.size w w'

end Go.Proofs.YtjligfbaljnhnaaDoor

/-
  The reference's Stain: it changes cells of a slice, and nothing else.
-/
set_option linter.unusedSimpArgs false
set_option linter.unusedVariables false
namespace Go.Proofs.YtjligfbaljnhnaaDoor
open Go.RowKit

theorem flat_set1 (cs : List Cell) (k j : Nat) (u : Value) (d : Cell) (hk : k < cs.length) (hj : j < 16) (hd : (cv cs[k]).setIfInBounds j u = cv d) : (flat cs).set (k * 16 + j) u = flat (cs.set k d) := by
  induction cs generalizing k with
  | nil => simp at hk
  | cons c r ih =>
    cases k with
    | zero =>
      simp at hd
      rw [flat_cons, List.set_cons_zero, flat_cons, ← hd, List.set_append_left _ _ (by simp [cv_size]; omega)]
      simp
    | succ k =>
      rw [flat_cons, List.set_cons_succ, flat_cons, List.set_append_right _ _ (by simp [cv_size]; omega)]
      simp only [Array.length_toList, cv_size]
      rw [show (k + 1) * 16 + j - 16 = k * 16 + j by omega, ih k (by simpa using hk) (by simpa using hd)]
theorem OwnC.setAt {w : World} {B g n cap : Nat} {cs : List Cell} (h : OwnC w B (.slice (some ⟨g, 0, none⟩) n cap) cs) {k j : Nat} (hk : k < cs.length) (hj : j < 16) {u : Value} {d : Cell} (hd : (cv cs[k]).setIfInBounds j u = cv d) :
    OwnC (w.setCell ⟨g, k * 16 + j, none⟩ u) B (.slice (some ⟨g, 0, none⟩) n cap) (cs.set k d) ∧ w.grownBy (w.setCell ⟨g, k * 16 + j, none⟩ u) (some g) := by
  obtain ⟨_, _, rfl, _⟩ := h.head (by omega)
  obtain ⟨h1, h2⟩ := World.ownsRow.stored h (k * 16 + j) u
  refine ⟨?_, h2⟩
  unfold OwnC
  rw [← flat_set1 cs k j u d hk hj hd]
  simpa using h1
theorem OwnC.free {w : World} {B g n cap : Nat} {cs : List Cell} (h : OwnC w B (.slice (some ⟨g, 0, none⟩) n cap) cs) (i : Nat) : w.frozen? ⟨g, i, none⟩ = false := by
  rcases h.2 with ⟨h', _⟩ | ⟨g', cap', cur, h', hb, hg, _⟩
  · simp at h'
  · simp only [Value.slice.injEq, Option.some.injEq, Addr.mk.injEq, and_true, true_and] at h'
    obtain ⟨rfl, -, rfl⟩ := h'
    exact Blk.frozen (t := 65) hg i

/-- Only the slice's own block has turned. -/
def OnlyEnd (w : World) (row : Option Nat) (e : Ending) (w' : World) : Prop := e = .returned (.tuple #[]) ∧ w.grownBy w' row

end Go.Proofs.YtjligfbaljnhnaaDoor

/-
  line.New, Of, Equal, Copy and the reference's New, Used, Same, Copy.
-/
set_option linter.unusedSimpArgs false
set_option linter.unusedVariables false
namespace Go.Proofs.YtjligfbaljnhnaaDoor
open Go.RowKit

/-- What gives a line of its own, and an error; or a line alone. -/
def LineEnd (l : List Cell) (s : Bool) (n : Int) (w : World) (e : Ending) (w' : World) : Prop := ∃ v, e = .returned (.tuple #[.agg #[v, .bool s], .int .i64 n]) ∧ OwnC w' w.heap.size v l ∧ Below w.heap.size w w'
def Line1End (l : List Cell) (s : Bool) (w : World) (e : Ending) (w' : World) : Prop := ∃ v, e = .returned (.agg #[v, .bool s]) ∧ OwnC w' w.heap.size v l ∧ Below w.heap.size w w'

/-- A line stored into its box. -/
def setLine (w : World) (g : Nat) (v : Value) (s : Bool) : World := (w.setCell ⟨g, 0, none⟩ v).setCell ⟨g, 1, none⟩ (.bool s)
theorem chg_setCell (w : World) (a : Addr) (u : Value) : Chg (fun k => k = a.block) w (w.setCell a u) := ⟨rfl, rfl, rfl, by simp [World.setCell], fun k _ hn => Below.heap_setCell w a u k hn⟩
theorem chg_setLine (w : World) (g : Nat) (v : Value) (s : Bool) : Chg (fun k => k = g) w (setLine w g v s) := (chg_setCell w ⟨g, 0, none⟩ v).trans (chg_setCell _ ⟨g, 1, none⟩ _) (fun _ _ h => h)
theorem blk_setLine {w : World} {g : Nat} {t : TypeId} {a b : Value} (h : Blk w g t #[a, b]) (v : Value) (s : Bool) : Blk (setLine w g v s) g t #[v, .bool s] := (h.set_ 0 v).set_ 1 (.bool s)
theorem own_from {w : World} {B : Nat} {v : Value} {cs : List Cell} (h : OwnC w B v cs) : ∀ b, v.ownBlock = some b → B ≤ b := fun b hb => (World.ownsRow.lt h b hb).1
theorem fin_line {w w1 : World} {g B : Nat} {t : TypeId} {a b v : Value} {l : List Cell} (s : Bool) (hB : Below w.heap.size w w1) (hk : Blk w1 g t #[a, b]) (hg : w.heap.size ≤ g) (ho : OwnC w1 B v l) (hgB : g < B) :
    Blk (setLine w1 g v s) g t #[v, .bool s] ∧ OwnC (setLine w1 g v s) w.heap.size v l ∧ Below w.heap.size w (setLine w1 g v s) :=
  ⟨blk_setLine hk v s, OwnC.low (own_chg ho (chg_setLine w1 g v s) (fun b hb he => by have := own_from ho b hb; omega)) (by omega), hB.trans ((chg_setLine w1 g v s).below hB.size (fun k hk he => by omega))⟩
theorem line_size : (Tryd.prog.info? 71).map (·.size) = some 2 := by kernel_rfl

theorem fin_none (w : World) (t : TypeId) : Blk (w.alloc (.cells #[.slice none 0 0, .bool false] t)) w.heap.size t #[.slice none 0 0, .bool false] := Blk.new _ _ _
end Go.Proofs.YtjligfbaljnhnaaDoor

/-
  line.Of, Equal, Copy; slices.Equal; the reference's New, Same.
-/
set_option linter.unusedSimpArgs false
set_option linter.unusedVariables false
namespace Go.Proofs.YtjligfbaljnhnaaDoor
open Go.RowKit

set_option maxHeartbeats 1000000 in
theorem slEqual_any (A B : Option Addr) (ca cb : Nat) (xs ys : List Cell) (w : World) (ha : RdC w A ca xs) (hb : RdC w B cb ys) (hn : xs.length ≤ 1000000) (hm : ys.length ≤ 1000000) :
    Calls Tryd.prog 92 #[.slice A xs.length ca, .slice B ys.length cb] w fun e w' => e = .returned (.bool (decide (xs = ys))) ∧ Below w.heap.size w w' := by
  have HA := Lib.hid ha
  have HB := Lib.hid hb
  clear ha hb
  by_cases hl : xs.length = ys.length
  case neg =>
    have HE := Lib.hid (show decide (xs = ys) = false by simp; intro h; exact hl (by rw [h]))
    have hl' : ((xs.length : Int) != (ys.length : Int)) = true := by rw [bne_iff_ne]; omega
    clear hl
    go_enter Tryd.func92, Tryd.ntmps92
    go_wp2_with fail
    go_ret
    exact ⟨by rw [HE.out]; rfl, Below.refl _ _⟩
  have hl' : ((xs.length : Int) != (ys.length : Int)) = false := by simp; omega
  have HL := Lib.hid hl
  clear hl
  go_enter Tryd.func92, Tryd.ntmps92
  go_wp2_with fail
  go_loopw [13] (fun i wr => ∃ k : Nat, k ≤ xs.length ∧ i = .int .i64 k ∧ (∀ j, j < k → xs[j]? = ys[j]?) ∧ Below w.heap.size w wr) (fun i _ => xs.length - (intOf i).toNat)
  case atStart => exact ⟨0, by omega, rfl, fun j hj => by omega, Below.refl _ _⟩
  case round =>
    obtain ⟨k, hk, rfl, hj, hb⟩ := hrel
    have HJ := Lib.hid hj
    have HW := Lib.hid hb
    clear hj hb
    by_cases hlt : k < xs.length
    · have hlt2 : k < ys.length := by have := HL.out; omega
      obtain ⟨b1, o1, rfl, hz1, hr1⟩ := (HA.out.bel HW.out).at_ hlt
      obtain ⟨b2, o2, rfl, hz2, hr2⟩ := (HB.out.bel HW.out).at_ hlt2
      have hc1 := elem_cell hr1 hlt
      have hc2 := elem_cell hr2 hlt2
      clear hr1 hr2
      by_cases he : xs[k] = ys[k]
      · have he' : decide (xs[k] = ys[k]) = true := by simpa using he
        have HE := Lib.hid he
        clear he
        go_wp2_with fail
        refine wp_region_below (by kernel_rfl) (by kernel_rfl) ?_
        repeat (go_big_quiet_step (fail))
        refine wpQuiet_nil ?_
        intro w2 hb2
        go_wp2_with fail
        go_roundw
        case rel => exact ⟨k + 1, by omega, by go_num, upto_succ HJ.out (by rw [List.getElem?_eq_getElem hlt, List.getElem?_eq_getElem hlt2, HE.out]), HW.out.trans (hb2.mono HW.out.size)⟩
        case measure => simp [intOf]; omega
      · have he' : decide (xs[k] = ys[k]) = false := by simpa using he
        have HE := Lib.hid (show decide (xs = ys) = false by simp; rintro rfl; exact he rfl)
        clear he
        go_wp2_with fail
        refine wp_region_below (by kernel_rfl) (by kernel_rfl) ?_
        repeat (go_big_quiet_step (fail))
        refine wpQuiet_nil ?_
        intro w2 hb2
        go_wp2_with fail
        go_ret
        exact ⟨by rw [HE.out]; rfl, HW.out.trans (hb2.mono HW.out.size)⟩
    · have HE := Lib.hid (show decide (xs = ys) = true by simp; exact upto_eq HL.out (fun j hj => HJ.out j (by omega)))
      go_wp2_with fail
      go_ret
      exact ⟨by rw [HE.out]; rfl, HW.out⟩

/-- Whether two lines are equal. -/
def eqL (xs : List Cell) (s : Bool) (ys : List Cell) (t : Bool) : Bool := decide ((xs, s) = (ys, t))
theorem eqL_self (xs : List Cell) (s : Bool) : eqL xs s xs s = true := by simp [eqL]
theorem lineEq_dec (xs ys : List Cell) (s t : Bool) : eqL xs s ys t = (decide (s = t) && decide (xs = ys)) := by unfold eqL; rw [Bool.eq_iff_iff]; simp [and_comm]
set_option maxHeartbeats 400000 in
theorem lineEqual_any (A B : Option Addr) (ca cb : Nat) (xs ys : List Cell) (s t : Bool) (w : World) (ha : RdC w A ca xs) (hb : RdC w B cb ys) (hn : xs.length ≤ 1000000) (hm : ys.length ≤ 1000000) :
    Calls Tryd.prog 66 #[.agg #[.slice A xs.length ca, .bool s], .agg #[.slice B ys.length cb, .bool t]] w fun e w' => e = .returned (.bool (eqL xs s ys t)) ∧ Below w.heap.size w w' := by
  have HA := Lib.hid ha
  have HB := Lib.hid hb
  clear ha hb
  have HD := Lib.hid (lineEq_dec xs ys s t)
  by_cases h : s = t
  · subst h
    go_enter Tryd.func66, Tryd.ntmps66
    go_wp2_with fail
    refine (slEqual_any _ _ _ _ _ _ _ ((HA.out.alloc _).alloc _) ((HB.out.alloc _).alloc _) hn hm).mono ?_
    rintro e w1 ⟨rfl, hb⟩
    go_wp2_with fail
    go_ret
    exact ⟨by rw [HD.out]; simp, bel1 (bel1 hb)⟩
  · have h' : (s == t) = false := by simpa using h
    go_enter Tryd.func66, Tryd.ntmps66
    go_wp2_with fail
    go_ret
    exact ⟨by rw [HD.out]; simp [h], (belA _ _).trans ((belA _ _).mono (by simp))⟩
theorem results_c1 {fn : Func} {p : Tmp} {ty tt : TypeId} {P : Program} (h : fn.results = #[.cell p ty]) (tmps : Array Value) (w : World) (g : Nat) (cs : Array Value) (d : TypeDesc)
    (hp : tmps.getD p undef = .pointer (some ⟨g, 0, none⟩)) (hg : Blk w g tt cs)
    (hu : P.underlying ty = some d) (hd : d.isRow = true) (hi : (P.info? ty).map (·.size) = some cs.size) :
    (results fn tmps).run P w = .ok (.agg cs) w := by
  have hp' : tmps[p]?.getD undef = .pointer (some ⟨g, 0, none⟩) := by simpa using hp
  simp [results, h, hp', asAddr, run_loadVar_mid w g 0 ty cs.toList d hg.range hu hd (by simpa using hi)]
set_option maxHeartbeats 400000 in
theorem lineCopy_any (A : Option Addr) (c : Nat) (cs : List Cell) (s : Bool) (w : World) (ha : RdC w A c cs) (hn : cs.length ≤ 1000000) :
    Calls Tryd.prog 57 #[.agg #[.slice A cs.length c, .bool s]] w (Line1End cs s w) := by
  have HA := Lib.hid ha
  clear ha
  go_enter Tryd.func57, Tryd.ntmps57
  go_wp2_with fail
  refine (clone_any _ _ _ _ ((HA.out.alloc _).alloc _) hn).mono ?_
  rintro e w1 ⟨v, rfl, ho, hb⟩
  obtain ⟨hk0, hk1, hb1⟩ := box2 hb
  obtain ⟨A1, c1, rfl, -⟩ := ho.form
  have HO := Lib.hid ho
  have HB := Lib.hid hb1
  have K0 := Lib.hid hk0
  have K1 := Lib.hid hk1
  obtain ⟨hx0, hf0, hz0⟩ := hk0.facts
  obtain ⟨hx1, hf1, hz1⟩ := hk1.facts
  clear ho hb hb1 hk0 hk1
  go_wp2_with fail
  have C1 := chg_setCell w1 ⟨w.heap.size, 0, none⟩ (.slice A1 cs.length c1)
  have HF := fin_line (w := w) (g := w.heap.size + 1) (v := .slice A1 cs.length c1) (l := cs) s (HB.out.trans (C1.below HB.out.size (fun k hk he => by have := (show k = w.heap.size from he); omega))) (K1.out.far (p := ⟨w.heap.size, 0, none⟩) (by simp) _) (by omega) (own_chg HO.out C1 (fun b hb he => by have := own_from HO.out b hb; have := (show b = w.heap.size from he); simp at *; omega)) (by simp)
  refine bodyPost_ret (results_c1 Tryd.results57 _ _ (w.heap.size + 1) _ _ rfl HF.1 Tryd.underlying71 rfl line_size) rfl ?_
  exact ⟨_, rfl, HF.2⟩

def ofLine (cs : List Cell) (s : Bool) : List Cell × Bool × Int := if lineOk cs = true then (cs, s, 0) else ([], false, 2)
theorem lvalid_is {cs : List Cell} {x : Bool} (h : lineOk cs = x) (A : Option Addr) (c : Nat) (s : Bool) (w : World) (ht : Tabs w) (ha : RdC w A c cs) (hn : cs.length ≤ 1000000) :
    Calls Tryd.prog 36 #[.agg #[.slice A cs.length c, .bool s]] w fun e w' => e = .returned (.bool x) ∧ Below w.heap.size w w' := h ▸ lineValid_any A c cs s w ht ha hn
theorem OwnC.formN {w : World} {B n : Nat} {v : Value} {cs : List Cell} (h : OwnC w B v cs) (hn : cs.length = n) : ∃ A c, v = .slice A n c ∧ RdC w A c cs := hn ▸ h.form
theorem emp_len (n : Nat) : (empties n).length = n := by simp [empties]
theorem emp_snoc (n : Nat) : empties n ++ [blank pen0] = empties (n + 1) := by unfold empties; rw [List.replicate_succ']; rfl
end Go.Proofs.YtjligfbaljnhnaaDoor

/-
  Steps of regions on cells and lines: calls, appends, stores of a line.
-/
set_option linter.unusedSimpArgs false
set_option linter.unusedVariables false
namespace Go.Proofs.YtjligfbaljnhnaaDoor
open Go.RowKit

theorem Blk.chg {S : Nat → Prop} {w w' : World} {g : Nat} {t : TypeId} {cs : Array Value} (h : Blk w g t cs) (hc : Chg S w w') (hn : ¬ S g) : Blk w' g t cs := (hc.block g h.lt hn).trans h
/-- An owned slice's value, and a line of one. -/
def Sq.line {S : Nat → Prop} (B : Nat) (cs : List Cell) (s : Bool) : Sq S :=
  ⟨fun u w => ∃ v, u = .agg #[v, .bool s] ∧ OwnC w B v cs ∧ ∀ b, v.ownBlock = some b → ¬ S b, fun _ _ _ ⟨v, h1, h2, h3⟩ hb => ⟨v, h1, own_chg h2 hb h3, h3⟩⟩
section
variable {ops : Array Oper} {Q : Exit → Act → World → Prop} {o : Oper} {a : Act} {w : World} {Φ : Value → World → Prop} {R : World → World → Prop}
theorem rstep_store {P : Program} {w2 : World} (hw : Region.wanted o (yielded ops a.tmps) = true) (hd : o.dst = none) (hr : (execOp a.eval o).run P w = .ok .skip w2) (hv : Φ undef w2) (hb : R w w2) : RStep P ops Q Φ R o a w := by
  unfold RStep
  rw [if_pos hw]
  unfold Oper.wp
  rw [hr]
  exact ⟨undef, (by rw [hd]), hv, hb⟩
theorem ro_call {f : FuncId} {xs : Array Operand} {args : Array Value} {ts : Array TypeId} (hw : Region.wanted o (yielded ops a.tmps) = true) (ho : o.op = .call { callee := .value (.func f), args := xs, argTypes := ts }) (hx : xs.map a.eval = args)
    (hf : ∀ (vs : Array Value) (w : World), (callFunc f vs).run Tryd.prog w = .ok (.enter f vs) w) (hc : Calls Tryd.prog f args w fun e w2 => ∃ v, e = .returned v ∧ Φ v w2 ∧ R w w2) : RStep Tryd.prog ops Q Φ R o a w := by
  refine rstep_call (f := f) (args := args) hw ?_ hc
  unfold execOp
  subst hx
  simp only [ho, resolve, invoke, Sem.run_bind, Sem.run_pure, Result.andThen_ok, Act.eval]
  simp [go_sem, hf]
theorem ro_app (hw : Region.wanted o (yielded ops a.tmps) = true) (s x : Operand) (ho : o.op = .call { callee := .builtin .append, args := #[s, x], argTypes := #[52, 52] })
    (B : Nat) (v : Value) (cs : List Cell) (hs : a.eval s = v) (hown : OwnC w B v cs) (A : Option Addr) (c : Nat) (ds : List Cell) (hx : a.eval x = .slice A ds.length c) (hr : RdC w A c ds) (hlen : cs.length + ds.length ≤ 1000000) (hbase : B ≤ w.heap.size)
    (h : ∀ v' w', OwnC w' B v' (cs ++ ds) → w.grownBy w' v.ownBlock → (v'.ownBlock = v.ownBlock ∨ v'.ownBlock = some w.heap.size) → Φ v' w' ∧ R w w') : RStep Tryd.prog ops Q Φ R o a w := by
  obtain ⟨i, hi, hz0, hz1, hz2⟩ := info_parts cell_info
  obtain ⟨h1, h2, h3⟩ := hr
  cases A with
  | none =>
    obtain rfl := h2 rfl
    obtain rfl : ds = [] := List.eq_nil_of_length_eq_zero (by omega)
    have hrun := run_append_owned_none (P := Tryd.prog) (w := w) B 52 o.type 65 i 16 Tryd.underlying52 hi v cs.length (flat cs) hown
    obtain ⟨g1, g2⟩ := h v w (by simpa using hown) (World.grownBy.refl w _) (.inl rfl)
    refine rstep_value hw ?_ g1 g2
    simp [execOp, ho, resolve, invoke, builtin, hs, hx, hrun, Result.andThen]
  | some ad =>
    obtain ⟨v', w', hrun, g1, g2, g3, g4⟩ := run_append_own_at (P := Tryd.prog) w B 52 o.type 65 i _ 16 64 Tryd.underlying52 hi hz0 hz1 hz2 (by simp [Value.cells, cv_size]) (by omega) v cs.length (flat cs) hown ad ds.length c (flat ds) (flat_length ds) (by
      intro j u hu
      have hj : j < ds.length * 16 := by have := (List.getElem?_eq_some_iff.1 hu).1; rwa [flat_length] at this
      obtain ⟨b, off, e, _, hr⟩ := h3 (by omega)
      cases e
      rw [add_at]; exact hr j u hu) (flat_one ds) (by simp only [maxLen]; omega) (by omega) hbase
    obtain ⟨k1, k2⟩ := h v' w' (by unfold OwnC; rw [flat_append, List.length_append]; exact g1) g2 g4
    refine rstep_value hw ?_ k1 k2
    simp [execOp, ho, resolve, invoke, builtin, hs, hx, hrun, Result.andThen]
end
end Go.Proofs.YtjligfbaljnhnaaDoor

/-
  line.Trim and the reference's Copy, Trim.
-/
set_option linter.unusedSimpArgs false
set_option linter.unusedVariables false
namespace Go.Proofs.YtjligfbaljnhnaaDoor
open Go.RowKit

/-- The other spelling of a temporary's value. -/
theorem gd {xs : Array Value} {i : Nat} {v : Value} (h : xs.getD i undef = v) : xs[i]?.getD undef = v := by rw [← Array.getD_eq_getD_getElem?]; exact h
theorem run_upto (w : World) (A : Option Addr) (n c u : Nat) (hu : u ≤ n) (hc : n ≤ c) (hA : A = none → c = 0) (h63 : n ≤ 9223372036854775807) : (Instr.slice 52 (.slice A n c) none (some (.int .i64 u)) none).run Tryd.prog w = .ok (.slice A u c) w := by
  have h1 : u ≤ c := by omega
  cases A with
  | none =>
    obtain rfl := hA rfl
    obtain rfl : u = 0 := by omega
    obtain rfl : n = 0 := by omega
    simp [go_sem]
  | some ad =>
    simp [go_sem, h1]
theorem RdC.upto {w : World} {A : Option Addr} {c : Nat} {cs : List Cell} (h : RdC w A c cs) (u : Nat) : RdC w A c (cs.take u) := ⟨by have := h.1; simp; omega, h.2.1, fun hn => by
  obtain ⟨b, off, e, hlt, hr⟩ := h.2.2 (by simp at hn; omega)
  exact ⟨b, off, e, hlt, RdC.take hr u⟩⟩
theorem RdC.old {w : World} {A : Option Addr} {c : Nat} {cs : List Cell} (h : RdC w A c cs) (hn : 0 < cs.length) : ∀ ad, A = some ad → ad.block < w.heap.size := fun ad e => by
  obtain ⟨b, off, e', hlt, _⟩ := h.2.2 hn
  rw [e] at e'
  cases e'
  exact hlt
/-- What a region that writes blocks of its own alone leaves of what came in. -/
theorem RdC.chgNew {S : Nat → Prop} {w w' : World} {A : Option Addr} {c : Nat} {cs : List Cell} {B : Nat} (h : RdC w A c cs) (hb : Chg S w w') (hS : ∀ b, b < w.heap.size → ¬ S b) : RdC w' A c cs := ⟨h.1, h.2.1, fun hn => by
  obtain ⟨b, off, e, hlt, hr⟩ := h.2.2 hn
  exact ⟨b, off, e, by have := hb.size; omega, (rangeAt_same (fun i => hb.cell (p := ⟨b, i, none⟩) hlt (hS b hlt))).2 hr⟩⟩
def trimOf (cs : List Cell) (s : Bool) : List Cell × Bool × Int := if lineOk cs = true then (trimL cs, s, 0) else ([], false, 2)
theorem trim_clone (A : Option Addr) (c : Nat) (cs : List Cell) (w : World) (ha : RdC w A c cs) (hn : cs.length ≤ 1000000) : Calls Tryd.prog 87 #[.slice A (usedOf cs) c] w (OwnEnd (trimL cs) w) := by
  have := clone_any A c (trimL cs) w (ha.upto _) (by have := usedOf_le cs; rw [trim_length]; omega)
  rwa [trim_length] at this
end Go.Proofs.YtjligfbaljnhnaaDoor

/-
  line.Fit and the reference's.
-/
set_option linter.unusedSimpArgs false
set_option linter.unusedVariables false
namespace Go.Proofs.YtjligfbaljnhnaaDoor
open Go.RowKit

def Sr.line (B : Nat) (cs : List Cell) (s : Bool) : Sr := ⟨fun u w => ∃ v, u = .agg #[v, .bool s] ∧ OwnC w B v cs, fun _ _ _ ⟨v, h1, h2⟩ hb => ⟨v, h1, h2.bel hb⟩⟩
def Sr.box (B g : Nat) (cs : List Cell) (s : Bool) : Sr := ⟨fun _ w => ∃ v, Blk w g 71 #[v, .bool s] ∧ OwnC w B v cs, fun _ _ _ ⟨v, h1, h2⟩ hb => ⟨v, h1.bel hb, h2.bel hb⟩⟩
theorem fit_eq (n : Nat) (cs : List Cell) : fixL (cs.take (min n cs.length)) ++ empties (n - min n cs.length) = fitTo n cs := by
  unfold fitTo
  rw [show cs.take (min n cs.length) = cs.take n from ?_, show n - min n cs.length = n - cs.length by omega]
  rcases Nat.le_total n cs.length with h | h
  · rw [Nat.min_eq_left h]
  · rw [Nat.min_eq_right h, List.take_of_length_le h, List.take_of_length_le (Nat.le_refl _)]
theorem fix_take (A : Option Addr) (c : Nat) (cs : List Cell) (m : Nat) (w : World) (ha : RdC w A c cs) (hn : cs.length ≤ 100000) (hm : m ≤ cs.length) : Calls Tryd.prog 73 #[.slice A m c] w (OwnEnd (fixL (cs.take m)) w) := by
  have := cellFix_any A c (cs.take m) w (ha.upto _) (by simp; omega)
  rw [show (cs.take m).length = m by simp; omega] at this
  exact this
def fitOf (n : Int) (cs : List Cell) (s : Bool) : List Cell × Bool × Int := if lineOk cs = true ∧ 0 ≤ n ∧ n ≤ 1000 then (fitTo n.toNat cs, s, 0) else ([], false, 2)
set_option maxRecDepth 100000 in
set_option maxHeartbeats 2000000 in
theorem lineFit_yes (A : Option Addr) (c : Nat) (cs : List Cell) (s : Bool) (n : Nat) (hn2 : n ≤ 1000) (w : World) (ht : Tabs w) (ha : RdC w A c cs) (hn : cs.length ≤ 100000) (hv : lineOk cs = true) :
    Calls Tryd.prog 39 #[.agg #[.slice A cs.length c, .bool s], .int .i64 n] w (LineEnd (fitTo n cs) s 0 w) := by
  have HT := Lib.hid ht
  have HA0 := Lib.hid ha
  have HV := Lib.hid hv
  clear ha ht hv
  go_enter Tryd.func39, Tryd.ntmps39
  go_wp2_with fail
  refine (lvalid_is HV.out _ _ _ _ ((HT.out.bel (belA _ _)).bel (belA _ _)) ((HA0.out.alloc _).alloc _) (by omega)).mono ?_
  rintro e W ⟨rfl, hb⟩
  obtain ⟨k0, k1, hb1⟩ := box2 hb
  have K0 := Lib.hid k0
  have K1 := Lib.hid k1
  have HB := Lib.hid hb1
  have HZ := Lib.hid (show w.heap.size + 2 ≤ W.heap.size by have := k1.lt; omega)
  obtain ⟨hx0, hf0, hz0⟩ := k0.facts
  clear hb k0 k1 hb1
  go_upto_region 4 with (fail)
  clear hx0 hf0 hz0
  rw [show (if cs.length < n then (cs.length : Int) else (n : Int)) = ((min n cs.length : Nat) : Int) by split <;> omega]
  refine wp_region_multi (by kernel_rfl) (by kernel_rfl) (by kernel_rfl) (fun i => if i = 4 then some 9 else if i = 8 then some 9 else none) (fun i k h => ?_) (fun b => w.heap.size + 1 ≤ b) [Sr.val (.pointer (some ⟨w.heap.size, 0, none⟩)), Sr.val (.slice A cs.length c), Sr.val (.int .i64 ((min n cs.length : Nat) : Int)), Sr.val (.slice A (min n cs.length) c), Sr.own (w.heap.size + 2) (fixL (cs.take (min n cs.length))), Sr.val (.int .i64 n), Sr.val (.int .i64 ((min n cs.length : Nat) : Int)), Sr.val (.int .i64 ((n - min n cs.length : Nat) : Int)), Sr.own (w.heap.size + 2) (empties (n - min n cs.length)), Sr.own (w.heap.size + 2) (fitTo n cs), Sr.val (.pointer (some ⟨w.heap.size, 1, none⟩)), Sr.val (.bool s), Sr.line (w.heap.size + 2) (fitTo n cs) s, Sr.box (w.heap.size + 2) (w.heap.size + 1) (fitTo n cs) s, Sr.val (.int .i64 0)] [(9, (fun b => w.heap.size + 2 ≤ b)), (13, (fun b => b = w.heap.size + 1))] [(13, (fun wz => Blk wz (w.heap.size + 1) 71 #[.slice none 0 0, .bool false]))] (fun p hp b hb hs => by simp only [List.mem_cons, List.not_mem_nil, or_false] at hp; rcases hp with rfl | rfl <;> (simp only at hs; omega)) (fun p hp => by simp only [List.mem_cons, List.not_mem_nil, or_false] at hp; subst hp; exact K1.out) (fun p hp w1 w2 h hb => by simp only [List.mem_cons, List.not_mem_nil, or_false] at hp; subst hp; exact Blk.bel h hb) (fun p hp q hq hne w1 w2 h hb => by simp only [List.mem_cons, List.not_mem_nil, or_false] at hp hq; subst hp; rcases hq with rfl | rfl <;> first | exact absurd rfl hne | exact Blk.chg h hb (show ¬ w.heap.size + 2 ≤ w.heap.size + 1 by omega)) ?_ ?_ ?_
  · (repeat' split at h) <;> first | (cases h; decide) | cases h
  · intro q hq
    simp only [List.mem_cons, List.not_mem_nil, or_false] at hq
    rcases hq with rfl | rfl
    · intro i v w1 w2 h1 h2 h3 h hc
      match i with
      | 0 => exact h
      | 1 => exact h
      | 2 => exact h
      | 3 => exact h
      | 4 => exact absurd rfl h2
      | 5 => exact h
      | 6 => exact h
      | 7 => exact h
      | 8 => exact absurd rfl h2
      | 9 => exact absurd rfl h1
      | 10 => exact h
      | 11 => exact h
      | 12 => exact absurd rfl (h3 _ rfl ⟨9, .data⟩ (by simp) rfl)
      | 13 => exact absurd rfl (h3 _ rfl ⟨9, .phase⟩ (by simp) rfl)
      | 14 => exact h
      | k + 15 => exact h
    · intro i v w1 w2 h1 h2 h3 h hc
      match i with
      | 0 => exact h
      | 1 => exact h
      | 2 => exact h
      | 3 => exact h
      | 4 => exact own_chg h hc (fun b hb he => by have := own_from h b hb; have he' : b = w.heap.size + 1 := he; omega)
      | 5 => exact h
      | 6 => exact h
      | 7 => exact h
      | 8 => exact own_chg h hc (fun b hb he => by have := own_from h b hb; have he' : b = w.heap.size + 1 := he; omega)
      | 9 => exact own_chg h hc (fun b hb he => by have := own_from h b hb; have he' : b = w.heap.size + 1 := he; omega)
      | 10 => exact h
      | 11 => exact h
      | 12 => exact (by obtain ⟨v', h5, h6⟩ := h; exact ⟨v', h5, own_chg h6 hc (fun b hb he => by have := own_from h6 b hb; have he' : b = w.heap.size + 1 := he; omega)⟩)
      | 13 => exact absurd rfl h1
      | 14 => exact h
      | k + 15 => exact h
  · refine RSteps.cons (fun a w' hc hp hk => ?_) ?_
    · have e2 : a.tmps.getD 2 undef = (.pointer (some ⟨w.heap.size, 0, none⟩) : Value) := (rk_same hk 2 (by kernel_rfl)).trans rfl
      have f2 := gd e2
      exact ro_pure (v := .pointer (some ⟨w.heap.size, 0, none⟩)) (wanted_none rfl) (by simp [execOp, Act.eval, e2, f2, go_sem]) rfl (Chg.refl _ _)
    refine RSteps.cons (fun a w' hc hp hk => ?_) ?_
    · have e24 : a.tmps.getD 24 undef = (.pointer (some ⟨w.heap.size, 0, none⟩) : Value) := (rk_at hk (e := ⟨0, .data⟩) (by simp) rfl rfl rfl)
      have f24 := gd e24
      have hx := (K0.out.chg hc (show ¬ w.heap.size + 1 ≤ w.heap.size by omega)).cell
      exact ro_pure (v := .slice A cs.length c) (wanted_none rfl) (by simp [execOp, Act.eval, e24, f24, go_sem, hx]) rfl (Chg.refl _ _)
    refine RSteps.cons (fun a w' hc hp hk => ?_) ?_
    · have e6 : a.tmps.getD 6 undef = (.int .i64 ((min n cs.length : Nat) : Int) : Value) := (rk_same hk 6 (by kernel_rfl)).trans rfl
      have f6 := gd e6
      exact ro_pure (v := .int .i64 ((min n cs.length : Nat) : Int)) (wanted_none rfl) (by simp [execOp, Act.eval, e6, f6, go_sem]) rfl (Chg.refl _ _)
    refine RSteps.cons (fun a w' hc hp hk => ?_) ?_
    · have e25 : a.tmps.getD 25 undef = (.slice A cs.length c : Value) := (rk_at hk (e := ⟨1, .data⟩) (by simp) rfl rfl rfl)
      have f25 := gd e25
      have e26 : a.tmps.getD 26 undef = (.int .i64 ((min n cs.length : Nat) : Int) : Value) := (rk_at hk (e := ⟨2, .data⟩) (by simp) rfl rfl rfl)
      have f26 := gd e26
      exact ro_pure (v := .slice A (min n cs.length) c) (wanted_none rfl) (by simp [execOp, Act.eval, e25, f25, e26, f26, go_sem, run_upto w' A cs.length c (min n cs.length) (Nat.min_le_right _ _) (HA0.out.chgNew (B := 0) ((Chg.of_below HB.out _).trans hc (fun _ _ h => h)) (fun b hb he => by omega)).1 (HA0.out.chgNew (B := 0) ((Chg.of_below HB.out _).trans hc (fun _ _ h => h)) (fun b hb he => by omega)).2.1 (by omega)]) rfl (Chg.refl _ _)
    refine RSteps.cons (fun a w' hc hp hk => ?_) ?_
    · have e27 : a.tmps.getD 27 undef = (.slice A (min n cs.length) c : Value) := (rk_at hk (e := ⟨3, .data⟩) (by simp) rfl rfl rfl)
      have f27 := gd e27
      exact ro_call (wanted_none rfl) rfl (by simp only [List.map_toArray, List.map_cons, List.map_nil, Act.eval, e27]) (fun _ _ => by kernel_rfl) ((fix_take A c cs (min n cs.length) w' (HA0.out.chgNew (B := 0) ((Chg.of_below HB.out _).trans hc (fun _ _ h => h)) (fun b hb he => by omega)) (by omega) (Nat.min_le_right _ _)).mono fun e w2 ⟨v, h1, h2, h3⟩ => ⟨v, h1, h2.low (by have := hc.size; have := HZ.out; omega), Chg.of_below h3 _⟩)
    refine RSteps.cons (fun a w' hc hp hk => ?_) ?_
    · have e1 : a.tmps.getD 1 undef = (.int .i64 n : Value) := (rk_same hk 1 (by kernel_rfl)).trans rfl
      have f1 := gd e1
      exact ro_pure (v := .int .i64 n) (wanted_none rfl) (by simp [execOp, Act.eval, e1, f1, go_sem]) rfl (Chg.refl _ _)
    refine RSteps.cons (fun a w' hc hp hk => ?_) ?_
    · have e6 : a.tmps.getD 6 undef = (.int .i64 ((min n cs.length : Nat) : Int) : Value) := (rk_same hk 6 (by kernel_rfl)).trans rfl
      have f6 := gd e6
      exact ro_pure (v := .int .i64 ((min n cs.length : Nat) : Int)) (wanted_none rfl) (by simp [execOp, Act.eval, e6, f6, go_sem]) rfl (Chg.refl _ _)
    refine RSteps.cons (fun a w' hc hp hk => ?_) ?_
    · have e29 : a.tmps.getD 29 undef = (.int .i64 n : Value) := (rk_at hk (e := ⟨5, .data⟩) (by simp) rfl rfl rfl)
      have f29 := gd e29
      have e30 : a.tmps.getD 30 undef = (.int .i64 ((min n cs.length : Nat) : Int) : Value) := (rk_at hk (e := ⟨6, .data⟩) (by simp) rfl rfl rfl)
      have f30 := gd e30
      exact ro_pure (v := .int .i64 ((n - min n cs.length : Nat) : Int)) (wanted_none rfl) (by simp [execOp, Act.eval, e29, f29, e30, f30, go_sem, show ((n - min n cs.length : Nat) : Int) = (n : Int) - ((min n cs.length : Nat) : Int) by omega, IntWalk.i64_in ((n : Int) - ((min n cs.length : Nat) : Int)) (by omega)]) rfl (Chg.refl _ _)
    refine RSteps.cons (fun a w' hc hp hk => ?_) ?_
    · have e31 : a.tmps.getD 31 undef = (.int .i64 ((n - min n cs.length : Nat) : Int) : Value) := (rk_at hk (e := ⟨7, .data⟩) (by simp) rfl rfl rfl)
      have f31 := gd e31
      exact ro_call (wanted_none rfl) rfl (by simp only [List.map_toArray, List.map_cons, List.map_nil, Act.eval, e31]) (fun _ _ => by kernel_rfl) ((lineEmpties_any (n - min n cs.length) (by omega) w').mono fun e w2 ⟨v, h1, h2, h3⟩ => ⟨v, h1, h2.low (by have := hc.size; have := HZ.out; omega), Chg.of_below h3 _⟩)
    refine RSteps.cons (fun a w' hc hp hk => ?_) ?_
    · obtain h28 : OwnC w' (w.heap.size + 2) (a.tmps.getD 28 undef) (fixL (cs.take (min n cs.length))) := (rk_at hk (e := ⟨4, .data⟩) (by simp) rfl rfl rfl)
      obtain h32 : OwnC w' (w.heap.size + 2) (a.tmps.getD 32 undef) (empties (n - min n cs.length)) := (rk_at hk (e := ⟨8, .data⟩) (by simp) rfl rfl rfl)
      obtain ⟨A9, c9, e32, hr9⟩ := h32.form
      exact ro_app (wanted_none rfl) _ _ rfl (w.heap.size + 2) (a.tmps.getD 28 undef) (fixL (cs.take (min n cs.length))) rfl h28 A9 c9 (empties (n - min n cs.length)) e32 hr9 (by rw [fixL_length]; simp [empties]; omega) (by have := hc.size; have := HZ.out; omega) (fun v' w2 hown hg hat => ⟨by rw [fit_eq] at hown; exact hown, Chg.of_grown hg _ (fun k hk => own_from h28 k hk)⟩)
    refine RSteps.cons (fun a w' hc hp hk => ?_) ?_
    · have e2 : a.tmps.getD 2 undef = (.pointer (some ⟨w.heap.size, 0, none⟩) : Value) := (rk_same hk 2 (by kernel_rfl)).trans rfl
      have f2 := gd e2
      exact ro_pure (v := .pointer (some ⟨w.heap.size, 1, none⟩)) (wanted_none rfl) (by simp [execOp, Act.eval, e2, f2, go_sem]) rfl (Chg.refl _ _)
    refine RSteps.cons (fun a w' hc hp hk => ?_) ?_
    · have e34 : a.tmps.getD 34 undef = (.pointer (some ⟨w.heap.size, 1, none⟩) : Value) := (rk_at hk (e := ⟨10, .data⟩) (by simp) rfl rfl rfl)
      have f34 := gd e34
      have hx := (K0.out.chg hc (show ¬ w.heap.size + 1 ≤ w.heap.size by omega)).cell
      exact ro_pure (v := .bool s) (wanted_none rfl) (by simp [execOp, Act.eval, e34, f34, go_sem, hx]) rfl (Chg.refl _ _)
    refine RSteps.cons (fun a w' hc hp hk => ?_) ?_
    · have e35 : a.tmps.getD 35 undef = (.bool s : Value) := (rk_at hk (e := ⟨11, .data⟩) (by simp) rfl rfl rfl)
      have f35 := gd e35
      obtain hown : OwnC w' (w.heap.size + 2) (a.tmps.getD 33 undef) (fitTo n cs) := (rk_at hk (e := ⟨9, .data⟩) (by simp) rfl rfl rfl)
      generalize e33 : a.tmps.getD 33 undef = u at hown
      obtain ⟨A9, c9, rfl, -⟩ := hown.form
      exact ro_pure (v := .agg #[.slice A9 (fitTo n cs).length c9, .bool s]) (wanted_none rfl) (by have f33 := gd e33; simp [execOp, Act.eval, f33, f35, go_sem]) ⟨_, rfl, hown⟩ (Chg.refl _ _)
    refine RSteps.cons (fun a w' hc hp hk => ?_) ?_
    · have e4 : a.tmps.getD 4 undef = (.pointer (some ⟨w.heap.size + 1, 0, none⟩) : Value) := (rk_same hk 4 (by kernel_rfl)).trans rfl
      have f4 := gd e4
      obtain ⟨v, e36, hown⟩ : ∃ v, (a.tmps.getD 36 undef) = .agg #[v, .bool s] ∧ OwnC w' (w.heap.size + 2) v (fitTo n cs) := (rk_at hk (e := ⟨12, .data⟩) (by simp) rfl rfl rfl)
      obtain ⟨A9, c9, rfl, -⟩ := hown.form
      have f36 := gd e36
      have hp' : Blk w' (w.heap.size + 1) 71 #[.slice none 0 0, .bool false] := hp
      obtain ⟨hx, hf, hz⟩ := hp'.facts
      refine rstep_store (w2 := setLine w' (w.heap.size + 1) (.slice A9 (fitTo n cs).length c9) s) (wanted_none rfl) rfl ?_ ⟨_, blk_setLine hp' _ _, own_chg hown (chg_setLine _ _ _ _) (fun b hb he => by have := own_from hown b hb; omega)⟩ (chg_setLine _ _ _ _)
      simp [execOp, Act.eval, e4, f4, e36, f36, go_sem, hx, hf, hz, setLine]
    refine RSteps.cons (fun a w' hc hp hk => ?_) ?_
    · exact ro_pure (v := .int .i64 0) (wanted_none rfl) (by simp [execOp, Act.eval, go_sem]) rfl (Chg.refl _ _)
    exact RSteps.nil
  · intro vs wz hc hv
    obtain ⟨v, hblk, hown⟩ : ∃ v, Blk wz (w.heap.size + 1) 71 #[v, .bool s] ∧ OwnC wz (w.heap.size + 2) v (fitTo n cs) := hv 13 (by decide) rfl
    have q14 : vs 14 = .int .i64 0 := hv 14 (by decide) rfl
    simp only [putL, Act.put, Nat.zero_add, Nat.reduceAdd, q14, List.setIfInBounds_toArray, List.set_cons_succ, List.set_cons_zero]
    go_wp2_with fail
    refine bodyPost_ret (results_ct Tryd.results39 _ _ (w.heap.size + 1) _ _ rfl hblk Tryd.underlying71 rfl line_size) rfl ?_
    exact ⟨_, rfl, hown.low (by omega), HB.out.trans (hc.below HB.out.size (fun k hk he => by omega))⟩
set_option maxHeartbeats 1000000 in
theorem lineFit_no (A : Option Addr) (c : Nat) (cs : List Cell) (s : Bool) (n : Int) (w : World) (ht : Tabs w) (ha : RdC w A c cs) (hn : cs.length ≤ 100000) (hv : ¬ (lineOk cs = true ∧ 0 ≤ n ∧ n ≤ 1000)) :
    Calls Tryd.prog 39 #[.agg #[.slice A cs.length c, .bool s], .int .i64 n] w (LineEnd [] false 2 w) := by
  have HT := Lib.hid ht
  have HA0 := Lib.hid ha
  clear ha ht
  have hgo : ∀ x, lineOk cs = x → (x = false ∨ n < 0 ∨ 1000 < n) → Calls Tryd.prog 39 #[.agg #[.slice A cs.length c, .bool s], .int .i64 n] w (LineEnd [] false 2 w) := by
    intro x hx hor
    have HV := Lib.hid hx
    clear hx hv
    rcases hor with rfl | h | h
    case' inr.inr => have h0 : ¬ n < 0 := by omega
    all_goals
      try cases x
    all_goals
      go_enter Tryd.func39, Tryd.ntmps39
      go_wp2_with fail
      refine (lvalid_is HV.out _ _ _ _ ((HT.out.bel (belA _ _)).bel (belA _ _)) ((HA0.out.alloc _).alloc _) (by omega)).mono ?_
      rintro e W ⟨rfl, hb⟩
      obtain ⟨k0, k1, hb1⟩ := box2 hb
      obtain ⟨hx0, hf0, hz0⟩ := k1.facts
      have K1 := Lib.hid k1
      have HB := Lib.hid hb1
      clear hb k0 k1 hb1
      go_wp2_with fail
      have HF := fin_line (w := w) (g := w.heap.size + 1) (v := .slice none 0 0) (l := []) false HB.out K1.out (by omega) (OwnC.nil W (w.heap.size + 2)) (by omega)
      refine bodyPost_ret (results_ct Tryd.results39 _ _ (w.heap.size + 1) _ _ rfl HF.1 Tryd.underlying71 rfl line_size) rfl ?_
      exact ⟨_, rfl, HF.2⟩
  cases h : lineOk cs
  · exact hgo false h (.inl rfl)
  · exact hgo true h (.inr (by simp [h] at hv; omega))
end Go.Proofs.YtjligfbaljnhnaaDoor

/-
  Slices of lines, grids: read, opened and closed again.
-/
set_option linter.unusedSimpArgs false
set_option linter.unusedVariables false
namespace Go.Proofs.YtjligfbaljnhnaaDoor
open Go.RowKit

/-- The slice at A reads as these lines. -/
def RdL (w : World) (A : Option Addr) (c : Nat) (L : List Ln) : Prop := L.length ≤ c ∧ (A = none → c = 0) ∧ (0 < L.length → ∃ b off, A = some ⟨b, off, none⟩ ∧ b < w.heap.size ∧
  ∀ (i : Nat) (l : Ln), L[i]? = some l → ∃ A' c', w.cell? ⟨b, off + i * 2, none⟩ = some (.slice A' l.1.length c') ∧ w.cell? ⟨b, off + i * 2 + 1, none⟩ = some (.bool l.2) ∧ RdC w A' c' l.1)
section
variable {w w' : World} {A : Option Addr} {c : Nat} {L : List Ln}
theorem RdL.bel (h : RdL w A c L) (hb : Below w.heap.size w w') : RdL w' A c L := ⟨h.1, h.2.1, fun hn => by
  obtain ⟨b, off, rfl, hz, hr⟩ := h.2.2 hn
  refine ⟨b, off, rfl, by have := hb.size; omega, fun i l hl => ?_⟩
  obtain ⟨A', c', h1, h2, h3⟩ := hr i l hl
  exact ⟨A', c', (hb.cell (p := ⟨b, off + i * 2, none⟩) hz).trans h1, (hb.cell (p := ⟨b, off + i * 2 + 1, none⟩) hz).trans h2, h3.bel hb⟩⟩
theorem RdL.at_ (h : RdL w A c L) {i : Nat} {l : Ln} (hl : L[i]? = some l) : ∃ b off A' c', A = some ⟨b, off, none⟩ ∧ b < w.heap.size ∧ w.cell? ⟨b, off + i * 2, none⟩ = some (.slice A' l.1.length c') ∧ w.cell? ⟨b, off + i * 2 + 1, none⟩ = some (.bool l.2) ∧ RdC w A' c' l.1 := by
  have hi : i < L.length := (List.getElem?_eq_some_iff.1 hl).1
  obtain ⟨b, off, rfl, hz, hr⟩ := h.2.2 (by omega)
  obtain ⟨A', c', h1, h2, h3⟩ := hr i l hl
  exact ⟨b, off, A', c', rfl, hz, h1, h2, h3⟩
theorem RdL.nil (w : World) : RdL w none 0 [] := ⟨by simp, fun _ => rfl, fun h => by simp at h⟩
end
section
variable {w0 w w' : World} {os : List Ob} {v : Value} {bs : List Value} {L : List Ln} {m : Option Nat}
theorem own_form {B k n : Nat} {t : TypeId} {xs : List Value} (h : w.ownsRow B t k v n xs) : ∃ A c, v = .slice A n c ∧ n ≤ c ∧ c ≤ maxLen ∧ (A = none → c = 0) ∧ (0 < n → ∃ g, A = some ⟨g, 0, none⟩ ∧ g < w.heap.size ∧ (∀ j, j < n * k → w.cell? ⟨g, j, none⟩ = xs[j]?) ∧ ∀ j, w.frozen? ⟨g, j, none⟩ = false) := by
  rcases h.2 with ⟨rfl, h0⟩ | ⟨g, cap, cur, rfl, hb, hg, hnc, hm, hsz, htk⟩
  · subst h0
    exact ⟨none, 0, rfl, Nat.le_refl _, by simp [maxLen], fun _ => rfl, fun h => by omega⟩
  · refine ⟨_, cap, rfl, hnc, hm, (fun h => by cases h), fun hn => ⟨g, rfl, (show Blk w g t cur from hg).lt, fun j hj => ?_, fun j => (show Blk w g t cur from hg).frozen j⟩⟩
    rw [(show Blk w g t cur from hg).cell, ← htk, List.getElem?_take, if_pos hj]
    simp
theorem LinesAt.form (h : LinesAt w v bs L m) : ∃ A c, v = .slice A L.length c ∧ L.length ≤ c ∧ c ≤ maxLen ∧ (A = none → c = 0) ∧ (0 < L.length → ∃ g, A = some ⟨g, 0, none⟩ ∧ g < w.heap.size ∧ (∀ i b, bs[i]? = some b → w.cell? ⟨g, i * 2, none⟩ = some b) ∧ (∀ i l, L[i]? = some l → w.cell? ⟨g, i * 2 + 1, none⟩ = some (.bool l.2)) ∧ ∀ j, w.frozen? ⟨g, j, none⟩ = false) := by
  obtain ⟨A, c, rfl, h1, h2, h3, h4⟩ := own_form h.own
  refine ⟨A, c, rfl, h1, h2, h3, fun hn => ?_⟩
  obtain ⟨g, rfl, h5, h6, h7⟩ := h4 hn
  refine ⟨g, rfl, h5, fun i b hb => ?_, fun i l hl => ?_, h7⟩
  · have hi : i < L.length := by rw [← h.len]; exact (List.getElem?_eq_some_iff.1 hb).1
    rw [h6 _ (by omega), hdrs_at0 h.len, hb]
  · have hi : i < L.length := (List.getElem?_eq_some_iff.1 hl).1
    rw [h6 _ (by omega), hdrs_at1 h.len, hl]
    rfl
theorem LinesAt.rd (h : LinesAt w v bs L none) : ∃ A c, v = .slice A L.length c ∧ c ≤ maxLen ∧ RdL w A c L := by
  obtain ⟨A, c, rfl, h1, h2, h3, h4⟩ := h.form
  refine ⟨A, c, rfl, h2, h1, h3, fun hn => ?_⟩
  obtain ⟨g, rfl, h5, h6, h7, h8⟩ := h4 hn
  refine ⟨g, 0, rfl, h5, fun i l hl => ?_⟩
  have hi : i < L.length := (List.getElem?_eq_some_iff.1 hl).1
  have hb : bs[i]? = some (bs[i]'(by rw [h.len]; exact hi)) := by simp [h.len, hi]
  have ho := h.rows i _ l (by simp) hb hl
  obtain ⟨A', c', e, hr⟩ := ho.form
  refine ⟨A', c', ?_, ?_, hr⟩
  · rw [Nat.zero_add, h6 i _ hb, e]
  · rw [Nat.zero_add]; exact h7 i l hl
theorem Objs.linesRd (h : Objs w0 w os) {k : Nat} (hk : os[k]? = some (.lines v L)) : ∃ A c, v = .slice A L.length c ∧ c ≤ maxLen ∧ RdL w A c L := by
  obtain ⟨F, bs, hF, _⟩ := h.get hk
  exact hF.rd
/-- What a grid's block holds; its lines. -/
theorem Objs.gridRd (h : Objs w0 w os) {k p : Nat} {t : TypeId} {cols : Int} (hk : os[k]? = some (.grid p t cols L)) : ∃ A c, Blk w p t #[.int .i64 cols, .slice A L.length c] ∧ c ≤ maxLen ∧ RdL w A c L := by
  obtain ⟨F, v, bs, hB, hF, _⟩ := h.get hk
  obtain ⟨A, c, rfl, hm, hr⟩ := hF.rd
  exact ⟨A, c, hB, hm, hr⟩

/-- A grid is its block and its lines. -/
theorem Objs.openGrid (h : Objs w0 w os) {k p : Nat} {t : TypeId} {cols : Int} (hk : os[k]? = some (.grid p t cols L)) : ∃ v, Objs w0 w (.lines v L :: os.set k (.box p t #[.int .i64 cols, v])) := by
  obtain ⟨F, v, bs, hB, hF, hn, hFb⟩ := h.get hk
  refine ⟨v, h.split (w' := w) hk (fun F hF => ?_)⟩
  obtain ⟨v2, bs2, hB2, hF2, hn2, hFb2⟩ := hF
  obtain rfl : v = v2 := by have := hB.symm.trans hB2; simp at this; exact this
  exact ⟨fun b => b = p, LF v bs2 none, Chg.refl _ _, ⟨hB2, fun _ => Iff.rfl⟩, ⟨bs2, hF2, fun _ => Iff.rfl⟩, fun b hb hl => hn2 (by subst hb; exact hl), fun b hb => .inl ((hFb2 b).2 (.inl hb)), fun b hb => .inl ((hFb2 b).2 (.inr hb))⟩
theorem Objs.closeGrid {k p : Nat} {t : TypeId} {cols : Int} (h : Objs w0 w (.lines v L :: os)) (hk : os[k]? = some (.box p t #[.int .i64 cols, v])) : Objs w0 w (os.set k (.grid p t cols L)) := by
  have := h.join (w' := w) (k := k + 1) (j := 0) (o := .box p t #[.int .i64 cols, v]) (oj := .lines v L) (o' := .grid p t cols L) (oj' := .none) (by simpa using hk) rfl (by omega) (fun F G hF hG hd => by
    obtain ⟨bs, h1, h2⟩ := hG
    refine ⟨fun b => F b ∨ G b, fun _ => False, Chg.refl _ _, ⟨v, bs, hF.1, h1, fun hl => hd p ((hF.2 p).2 rfl) ((h2 p).2 hl), fun b => ?_⟩, fun _ hf => hf, fun _ _ hf => hf, fun b hb => hb.elim .inl (fun x => .inr (.inl x)), fun _ hf => hf.elim⟩
    simp only [hF.2, h2])
  simpa using this.tail
/-- The slices of a slice of lines are given by what lies there. -/
theorem LinesAt.same {bs2 : List Value} {m2 : Option Nat} (h : LinesAt w v bs L m) (g : LinesAt w v bs2 L m2) : bs2 = bs := by
  apply List.ext_getElem?
  intro n
  rcases Nat.lt_or_ge n L.length with hn | hn
  · obtain ⟨A, c, rfl, q1, q2, q3, q4⟩ := own_form h.own
    obtain ⟨gg, rfl, q5, q6, q7⟩ := q4 (by omega)
    obtain ⟨A', c', e', p1, p2, p3, p4⟩ := own_form g.own
    obtain ⟨g', e'', p5, p6, p7⟩ := p4 (by omega)
    subst e''
    simp only [Value.slice.injEq, Option.some.injEq, Addr.mk.injEq, and_true, true_and] at e'
    obtain ⟨rfl, -⟩ := e'
    rw [← hdrs_at0 h.len, ← hdrs_at0 g.len, ← q6 _ (by omega), ← p6 _ (by omega)]
  · rw [List.getElem?_eq_none (by rw [g.len]; exact hn), List.getElem?_eq_none (by rw [h.len]; exact hn)]
/-- The cells of a line are taken out, and put back. -/
theorem Objs.openRow (h : Objs w0 w os) {k i : Nat} {l : Ln} (hk : os[k]? = some (.lines v L)) (hl : L[i]? = some l) : ∃ b, Objs w0 w (.cells b l.1 :: os.set k (.linesx v L i b)) := by
  obtain ⟨F, bs, h1, h2⟩ := h.get hk
  have hi : i < L.length := (List.getElem?_eq_some_iff.1 hl).1
  have hb : bs[i]? = some (bs[i]'(by rw [h1.len]; exact hi)) := by simp [h1.len, hi]
  refine ⟨bs[i]'(by rw [h1.len]; exact hi), h.split (w' := w) hk (fun F' hF' => ?_)⟩
  obtain ⟨bs3, g3, g4⟩ := hF'
  obtain rfl := h1.same g3
  refine ⟨LF v bs3 (some i), fun b => (bs3[i]'(by rw [g3.len]; exact hi)).ownBlock = some b, Chg.refl _ _, ⟨bs3, ⟨g3.len, g3.own, fun j b l hm hb hl => g3.rows j b l (by simp) hb hl, g3.dist⟩, hb, fun _ => Iff.rfl⟩, ⟨g3.rows i _ l (by simp) hb hl, fun _ => Iff.rfl⟩, fun b hb1 hb2 => ?_, fun b hb1 => .inl ((g4 b).2 ?_), fun b hb1 => .inl ((g4 b).2 (.inr ⟨i, _, by simp, hb, hb1⟩))⟩
  · rcases hb1 with e | ⟨j, x, hm, hx, e⟩
    · exact own_apart (by decide) g3.own (g3.rows i _ l (by simp) hb hl) e hb2
    · exact hm (by rw [g3.dist i j _ _ _ hb hx hb2 e])
  · rcases hb1 with e | ⟨j, x, hm, hx, e⟩
    · exact .inl e
    · exact .inr ⟨j, x, by simp, hx, e⟩
theorem hdrs_set {bs : List Value} {L : List Ln} (h : bs.length = L.length) (i : Nat) (l : Ln) (hl : (L[i]?).map (·.2) = some l.2) : hdrs bs (L.set i l) = hdrs bs L := by
  induction bs generalizing L i with
  | nil => cases L with | nil => rfl | cons a L => simp at h
  | cons b bs ih => cases L with
    | nil => simp at h
    | cons a L => cases i with
      | zero => simp at hl; rw [List.set_cons_zero, hdrs_cons, hdrs_cons, hl]
      | succ i => rw [List.set_cons_succ, hdrs_cons, hdrs_cons, ih (by simpa using h) i (by simpa using hl)]
theorem Objs.closeRow {k i : Nat} {b : Value} {cs : List Cell} {s : Bool} (h : Objs w0 w (.cells b cs :: os)) (hk : os[k]? = some (.linesx v L i b)) (hs : (L[i]?).map (·.2) = some s) : Objs w0 w (os.set k (.lines v (L.set i (cs, s)))) := by
  have := h.join (w' := w) (k := k + 1) (j := 0) (o := .linesx v L i b) (oj := .cells b cs) (o' := .lines v (L.set i (cs, s))) (oj' := .none) (by simpa using hk) rfl (by omega) (fun F G hF hG hd => by
    obtain ⟨bs, h1, h3, h2⟩ := hF
    refine ⟨fun b => F b ∨ G b, fun _ => False, Chg.refl _ _, ⟨bs, ⟨by simpa using h1.len, ?_, fun j x l hm hx hl => ?_, h1.dist⟩, fun y => ?_⟩, fun _ hf => hf, fun _ _ hf => hf, fun b hb => hb.elim .inl (fun x => .inr (.inl x)), fun _ hf => hf.elim⟩
    · rw [List.length_set, hdrs_set h1.len i (cs, s) hs]; exact h1.own
    · by_cases hj : i = j
      · subst hj
        rw [h3] at hx; cases hx
        have hil : i < L.length := by rw [← h1.len]; exact (List.getElem?_eq_some_iff.1 h3).1
        rw [List.getElem?_set_self hil] at hl; cases hl
        exact hG.1
      · rw [List.getElem?_set_ne hj] at hl
        exact h1.rows j x l (by simpa using hj) hx hl
    · show F y ∨ G y ↔ _
      rw [h2, hG.2]
      constructor
      · rintro ((e | ⟨j, x, hm, hx, e⟩) | e)
        · exact .inl e
        · exact .inr ⟨j, x, by simp, hx, e⟩
        · exact .inr ⟨i, b, by simp, h3, e⟩
      · rintro (e | ⟨j, x, hm, hx, e⟩)
        · exact .inl (.inl e)
        · by_cases hj : i = j
          · subst hj; rw [h3] at hx; cases hx; exact .inr e
          · exact .inl (.inr ⟨j, x, by simpa using hj, hx, e⟩))
  simpa using this.tail
/-- What a slice of lines of which one is open holds. -/
theorem Objs.linesxRd (h : Objs w0 w os) {k i : Nat} {b : Value} (hk : os[k]? = some (.linesx v L i b)) : ∃ g c, v = .slice (some ⟨g, 0, none⟩) L.length c ∧ L.length ≤ c ∧ c ≤ maxLen ∧ i < L.length ∧ g < w.heap.size ∧ w.cell? ⟨g, i * 2, none⟩ = some b ∧ (∀ l, L[i]? = some l → w.cell? ⟨g, i * 2 + 1, none⟩ = some (.bool l.2)) ∧ ∀ j, w.frozen? ⟨g, j, none⟩ = false := by
  obtain ⟨F, bs, h1, h3, h2⟩ := h.get hk
  have hi : i < L.length := by rw [← h1.len]; exact (List.getElem?_eq_some_iff.1 h3).1
  obtain ⟨A, c, rfl, q1, q2, q3, q4⟩ := h1.form
  obtain ⟨g, rfl, q5, q6, q7, q8⟩ := q4 (by omega)
  exact ⟨g, c, rfl, q1, q2, hi, q5, q6 i b h3, q7 i, q8⟩
/-- A call that turns a slice of cells alone. -/
theorem cells_call {P : Program} {f : FuncId} {args : Array Value} {k : Nat} {cs cs' : List Cell} {r : Value} (hS : Objs w0 w os) (hk : os[k]? = some (.cells v cs))
    (hc : OwnC w 0 v cs → Calls P f args w fun e w' => e = .returned r ∧ OwnC w' 0 v cs' ∧ w.grownBy w' v.ownBlock) : Calls P f args w fun e w' => e = .returned r ∧ Objs w0 w' (os.set k (.cells v cs')) :=
  (hc (hS.own hk)).mono fun e w' ⟨h1, h2, h3⟩ => ⟨h1, hS.upd hk (fun F hF => ⟨F, Chg.of_grown h3 F (fun b hb => (hF.2 b).2 hb), ⟨h2, hF.2⟩, fun b hb => .inl hb⟩)⟩
/-- A store into a slice of cells. -/
theorem Objs.cellsUpd {k : Nat} {cs cs' : List Cell} (hS : Objs w0 w os) (hk : os[k]? = some (.cells v cs)) (ho : OwnC w' 0 v cs') (hg : w.grownBy w' v.ownBlock) : Objs w0 w' (os.set k (.cells v cs')) :=
  hS.upd hk (fun F hF => ⟨F, Chg.of_grown hg F (fun b hb => (hF.2 b).2 hb), ⟨ho, hF.2⟩, fun b hb => .inl hb⟩)
end
end Go.Proofs.YtjligfbaljnhnaaDoor

/-
  A row is broken at a column: the program's split and the reference's Break.
-/
set_option linter.unusedSimpArgs false
set_option linter.unusedVariables false
namespace Go.Proofs.YtjligfbaljnhnaaDoor
open Go.RowKit

/-- A row broken at a column. -/
def brk (c : Nat) (cs : List Cell) : List Cell := match c with
  | 0 => cs
  | m + 1 => if m + 1 < cs.length ∧ (cAt cs m).width = 2 then (cs.set m (blank (cAt cs m).pen)).set (m + 1) (blank (cAt cs (m + 1)).pen) else cs
theorem brk_succ (m : Nat) (cs : List Cell) : brk (m + 1) cs = if m + 1 < cs.length ∧ (cAt cs m).width = 2 then (cs.set m (blank (cAt cs m).pen)).set (m + 1) (blank (cAt cs (m + 1)).pen) else cs := rfl
theorem brk_length (c : Nat) (cs : List Cell) : (brk c cs).length = cs.length := by
  cases c with
  | zero => rfl
  | succ m => rw [brk_succ]; split <;> simp
theorem cells_facts {w0 w : World} {os : List Ob} {k g n cap i : Nat} {cs : List Cell} {c : Cell} (S : Objs w0 w os) (hk : os[k]? = some (.cells (.slice (some ⟨g, 0, none⟩) n cap) cs)) (hi : cs[i]? = some c) :
    w.cell? ⟨g, i * 16 + 4, none⟩ = some (.int .i64 c.width) ∧ penAt w g (i * 16 + 5) = some c.pen ∧ cellAt w g (i * 16) = some c ∧ (∀ j, w.frozen? ⟨g, j, none⟩ = false) ∧ g < w.heap.size := by
  have hlt : i < cs.length := (List.getElem?_eq_some_iff.1 hi).1
  have ho := S.own hk
  obtain ⟨g', e, -, -, hz, hr⟩ := ho.head (by omega)
  cases e
  obtain ⟨h1, h2, h3⟩ := own_elem hr hlt (c := c) (by simpa [hlt] using hi)
  exact ⟨h1, h2, h3, fun j => OwnC.free ho j, hz⟩
theorem r14Blank_any (p : Pen) (w : World) : Calls Tryd.prog 29 #[.agg (pv p)] w fun e w' => e = .returned (.agg (cv (blank p))) ∧ Below w.heap.size w w' := by
  go_enter Tryd.func29, Tryd.ntmps29
  go_wp2
  exact bodyPost_ret (results_cell_row Tryd.results29 _ _ (w.heap.size + 1) 65 (cv (blank p)) (0, 0) _ rfl (heap_alloc2_new w _ _) Tryd.underlying65 rfl cell_size) rfl ⟨rfl, ((Below.refl _ _).alloc (Nat.le_refl _) _).alloc (by simp) _⟩
theorem front_call {P : Program} {f : FuncId} {args : Array Value} {k : Nat} {o o' : Ob} {r : Value} {w0 w : World} {os : List Ob} (hS : Objs w0 w os) (hk : os[k]? = some o)
    (hc : ∀ os1, Objs w0 w (o :: os1) → Calls P f args w fun e w' => e = .returned r ∧ Objs w0 w' (o' :: os1)) : Calls P f args w fun e w' => e = .returned r ∧ Objs w0 w' (os.set k o') :=
  (hc _ (hS.lift hk)).mono fun e w' ⟨h1, h2⟩ => ⟨h1, h2.lower hk⟩

set_option maxRecDepth 100000 in
set_option maxHeartbeats 2000000 in
theorem split_front (A : Option Addr) (cap : Nat) (cs : List Cell) (n : Int) (c : Nat) (hn : n = (c : Int)) (w0 w : World) (os : List Ob) (hS : Objs w0 w (.cells (.slice A cs.length cap) cs :: os)) (hlen : cs.length ≤ 1000000) (hc : c ≤ 2000000) :
    Calls Tryd.prog 80 #[.slice A cs.length cap, .int .i64 n] w fun e w' => e = .returned (.tuple #[]) ∧ Objs w0 w' (.cells (.slice A cs.length cap) (brk c cs) :: os) := by
  subst hn
  have S := Lib.hid hS
  clear hS
  cases c with
  | zero =>
    show Calls _ _ #[_, .int .i64 0] _ _
    go_enter Tryd.func80, Tryd.ntmps80
    go_wp2_with fail
    refine bodyPost_ret (results_none rfl _ _ _) rfl ?_
    exact ⟨rfl, S.out⟩
  | succ m =>
  simp only [Int.natCast_add, Int.natCast_one]
  by_cases hlt : m + 1 < cs.length
  case neg =>
    have HB := Lib.hid (show brk (m + 1) cs = cs by rw [brk_succ, if_neg (by omega)])
    have hge : ¬ ((m : Int) + 1 < cs.length) := by omega
    go_enter Tryd.func80, Tryd.ntmps80
    go_wp2_with fail
    refine bodyPost_ret (results_none rfl _ _ _) rfl ?_
    exact ⟨rfl, by rw [HB.out]; exact S.out⟩
  obtain ⟨g, rfl, -, -, -, -⟩ := (S.out.own (k := 0) rfl).head (by omega)
  have hat0 : cs[m]? = some (cAt cs m) := by rw [cAt_eq (by omega)]; simp [show m < cs.length by omega]
  have hat1 : cs[m + 1]? = some (cAt cs (m + 1)) := by rw [cAt_eq hlt]; simp [hlt]
  by_cases hw : (cAt cs m).width = 2
  case neg =>
    have HB := Lib.hid (show brk (m + 1) cs = cs by rw [brk_succ, if_neg (by simp [hw])])
    obtain ⟨hx, -⟩ := cells_facts S.out (k := 0) rfl hat0
    have hw1 := beq_no hw
    have hw2 := bne_yes hw
    clear hat0 hat1 hw
    go_enter Tryd.func80, Tryd.ntmps80
    go_wp2_with fail
    refine bodyPost_ret (results_none rfl _ _ _) rfl ?_
    exact ⟨rfl, by rw [HB.out]; exact S.out⟩
  have HB := Lib.hid (show brk (m + 1) cs = (cs.set m (blank (cAt cs m).pen)).set (m + 1) (blank (cAt cs (m + 1)).pen) by rw [brk_succ, if_pos ⟨hlt, hw⟩])
  obtain ⟨hx, -⟩ := cells_facts S.out (k := 0) rfl hat0
  have hw1 := beq_yes hw
  have hw2 := bne_no hw
  have HW := Lib.hid hw
  clear hw
  go_enter Tryd.func80, Tryd.ntmps80
  go_upto_region 1 with (fail)
  · clear hx hw1 hw2
    have hwm : IntKind.i64.wrap (m : Int) = (m : Int) := IntWalk.i64_in _ (by omega)
    have hb0 : (0 : Int) ≤ (m : Int) := by omega
    have hb1 : (m : Int) < (cs.length : Int) := by omega
    have hb2 : (0 : Int) ≤ (m : Int) + 1 := by omega
    have hb3 : (m : Int) + 1 < (cs.length : Int) := by omega
    have ht1 : ((m : Int) + 1).toNat = m + 1 := by omega
    refine wp_region_stage (w0 := w0) (os := os) (by kernel_rfl) (by kernel_rfl) (by kernel_rfl) [(0, 19, [], fun vs => .cells (.slice (some ⟨g, 0, none⟩) cs.length cap) (cs.set m (blank (cAt cs m).pen))), (0, 21, [], fun vs => .cells (.slice (some ⟨g, 0, none⟩) cs.length cap) ((cs.set m (blank (cAt cs m).pen)).set (m + 1) (blank (cAt cs (m + 1)).pen)))] [[], [], [], [], [], [], [], [], [], [], [0], [], [], [], [], [], [0], [], [], [0], [], [0]] [.cells (.slice (some ⟨g, 0, none⟩) cs.length cap) cs] (fun i u => match i with | 0 => u = (.slice (some ⟨g, 0, none⟩) cs.length cap : Value) | 1 => u = (.int .i64 (↑m + 1) : Value) | 2 => u = (.int .i64 ↑m : Value) | 3 => u = (.slice (some ⟨g, 0, none⟩) cs.length cap : Value) | 4 => u = (.int .i64 (↑m + 1) : Value) | 5 => u = (.slice (some ⟨g, 0, none⟩) cs.length cap : Value) | 6 => u = (.int .i64 (↑m + 1) : Value) | 7 => u = (.int .i64 ↑m : Value) | 8 => u = (.pointer (some ⟨g, m * 16, none⟩) : Value) | 9 => u = (.pointer (some ⟨g, m * 16 + 5, none⟩) : Value) | 10 => u = (.agg (pv (cAt cs m).pen) : Value) | 11 => u = (.agg (cv (blank (cAt cs m).pen)) : Value) | 12 => u = (.slice (some ⟨g, 0, none⟩) cs.length cap : Value) | 13 => u = (.int .i64 (↑m + 1) : Value) | 14 => u = (.pointer (some ⟨g, (m + 1) * 16, none⟩) : Value) | 15 => u = (.pointer (some ⟨g, (m + 1) * 16 + 5, none⟩) : Value) | 16 => u = (.agg (pv (cAt cs (m + 1)).pen) : Value) | 17 => u = (.agg (cv (blank (cAt cs (m + 1)).pen)) : Value) | 18 => u = (.pointer (some ⟨g, m * 16, none⟩) : Value) | 19 => True | 20 => u = (.pointer (some ⟨g, (m + 1) * 16, none⟩) : Value) | 21 => True | _ => True) (fun vs => [.cells (.slice (some ⟨g, 0, none⟩) cs.length cap) ((cs.set m (blank (cAt cs m).pen)).set (m + 1) (blank (cAt cs (m + 1)).pen))]) (by kernel_rfl) (fun vs => by rfl) S.out ?_ ?_
    · refine SSteps.cons (fun a w' vs σ hS hl hs hk => ?_) ?_
      · have e0 : a.tmps.getD 0 undef = (.slice (some ⟨g, 0, none⟩) cs.length cap : Value) := (sk_old hk 0 (by kernel_rfl)).trans rfl
        have f0 := gd e0
        exact ro_pure (v := .slice (some ⟨g, 0, none⟩) cs.length cap) (wanted_none rfl) (by simp [execOp, Act.eval, e0, f0, go_sem]) (sp_same (by kernel_rfl) hl hs hS (show (.slice (some ⟨g, 0, none⟩) cs.length cap : Value) = _ from rfl)) trivial
      refine SSteps.cons (fun a w' vs σ hS hl hs hk => ?_) ?_
      · have e1 : a.tmps.getD 1 undef = (.int .i64 (↑m + 1) : Value) := (sk_old hk 1 (by kernel_rfl)).trans rfl
        have f1 := gd e1
        exact ro_pure (v := .int .i64 (↑m + 1)) (wanted_none rfl) (by simp [execOp, Act.eval, e1, f1, go_sem]) (sp_same (by kernel_rfl) hl hs hS (show (.int .i64 (↑m + 1) : Value) = _ from rfl)) trivial
      refine SSteps.cons (fun a w' vs σ hS hl hs hk => ?_) ?_
      · have e22 : a.tmps.getD 22 undef = (.int .i64 (↑m + 1) : Value) := (sk_val hk 1 (by kernel_rfl) rfl rfl).trans ((hk.1 1 (by kernel_rfl)).1)
        have f22 := gd e22
        exact ro_pure (v := .int .i64 ↑m) (wanted_none rfl) (by simp [execOp, Act.eval, e22, f22, go_sem, hwm]) (sp_same (by kernel_rfl) hl hs hS (show (.int .i64 ↑m : Value) = _ from rfl)) trivial
      refine SSteps.cons (fun a w' vs σ hS hl hs hk => ?_) ?_
      · have e0 : a.tmps.getD 0 undef = (.slice (some ⟨g, 0, none⟩) cs.length cap : Value) := (sk_old hk 0 (by kernel_rfl)).trans rfl
        have f0 := gd e0
        exact ro_pure (v := .slice (some ⟨g, 0, none⟩) cs.length cap) (wanted_none rfl) (by simp [execOp, Act.eval, e0, f0, go_sem]) (sp_same (by kernel_rfl) hl hs hS (show (.slice (some ⟨g, 0, none⟩) cs.length cap : Value) = _ from rfl)) trivial
      refine SSteps.cons (fun a w' vs σ hS hl hs hk => ?_) ?_
      · have e1 : a.tmps.getD 1 undef = (.int .i64 (↑m + 1) : Value) := (sk_old hk 1 (by kernel_rfl)).trans rfl
        have f1 := gd e1
        exact ro_pure (v := .int .i64 (↑m + 1)) (wanted_none rfl) (by simp [execOp, Act.eval, e1, f1, go_sem]) (sp_same (by kernel_rfl) hl hs hS (show (.int .i64 (↑m + 1) : Value) = _ from rfl)) trivial
      refine SSteps.cons (fun a w' vs σ hS hl hs hk => ?_) ?_
      · have e0 : a.tmps.getD 0 undef = (.slice (some ⟨g, 0, none⟩) cs.length cap : Value) := (sk_old hk 0 (by kernel_rfl)).trans rfl
        have f0 := gd e0
        exact ro_pure (v := .slice (some ⟨g, 0, none⟩) cs.length cap) (wanted_none rfl) (by simp [execOp, Act.eval, e0, f0, go_sem]) (sp_same (by kernel_rfl) hl hs hS (show (.slice (some ⟨g, 0, none⟩) cs.length cap : Value) = _ from rfl)) trivial
      refine SSteps.cons (fun a w' vs σ hS hl hs hk => ?_) ?_
      · have e1 : a.tmps.getD 1 undef = (.int .i64 (↑m + 1) : Value) := (sk_old hk 1 (by kernel_rfl)).trans rfl
        have f1 := gd e1
        exact ro_pure (v := .int .i64 (↑m + 1)) (wanted_none rfl) (by simp [execOp, Act.eval, e1, f1, go_sem]) (sp_same (by kernel_rfl) hl hs hS (show (.int .i64 (↑m + 1) : Value) = _ from rfl)) trivial
      refine SSteps.cons (fun a w' vs σ hS hl hs hk => ?_) ?_
      · have e27 : a.tmps.getD 27 undef = (.int .i64 (↑m + 1) : Value) := (sk_val hk 6 (by kernel_rfl) rfl rfl).trans ((hk.1 6 (by kernel_rfl)).1)
        have f27 := gd e27
        exact ro_pure (v := .int .i64 ↑m) (wanted_none rfl) (by simp [execOp, Act.eval, e27, f27, go_sem, hwm]) (sp_same (by kernel_rfl) hl hs hS (show (.int .i64 ↑m : Value) = _ from rfl)) trivial
      refine SSteps.cons (fun a w' vs σ hS hl hs hk => ?_) ?_
      · have e26 : a.tmps.getD 26 undef = (.slice (some ⟨g, 0, none⟩) cs.length cap : Value) := (sk_val hk 5 (by kernel_rfl) rfl rfl).trans ((hk.1 5 (by kernel_rfl)).1)
        have f26 := gd e26
        have e28 : a.tmps.getD 28 undef = (.int .i64 ↑m : Value) := (sk_val hk 7 (by kernel_rfl) rfl rfl).trans ((hk.1 7 (by kernel_rfl)).1)
        have f28 := gd e28
        exact ro_pure (v := .pointer (some ⟨g, m * 16, none⟩)) (wanted_none rfl) (by simp [execOp, Act.eval, e26, f26, e28, f28, go_sem, hb0, hb1]) (sp_same (by kernel_rfl) hl hs hS (show (.pointer (some ⟨g, m * 16, none⟩) : Value) = _ from rfl)) trivial
      refine SSteps.cons (fun a w' vs σ hS hl hs hk => ?_) ?_
      · have e29 : a.tmps.getD 29 undef = (.pointer (some ⟨g, m * 16, none⟩) : Value) := (sk_val hk 8 (by kernel_rfl) rfl rfl).trans ((hk.1 8 (by kernel_rfl)).1)
        have f29 := gd e29
        exact ro_pure (v := .pointer (some ⟨g, m * 16 + 5, none⟩)) (wanted_none rfl) (by simp [execOp, Act.eval, e29, f29, go_sem]) (sp_same (by kernel_rfl) hl hs hS (show (.pointer (some ⟨g, m * 16 + 5, none⟩) : Value) = _ from rfl)) trivial
      refine SSteps.cons (fun a w' vs σ hS hl hs hk => ?_) ?_
      · have e30 : a.tmps.getD 30 undef = (.pointer (some ⟨g, m * 16 + 5, none⟩) : Value) := (sk_val hk 9 (by kernel_rfl) rfl rfl).trans ((hk.1 9 (by kernel_rfl)).1)
        have f30 := gd e30
        have hc := cells_facts hS (sg (hs 0 (by decide))) (i := m) (c := cAt cs m) hat0
        have hx := hc.2.1
        exact ro_pure (v := .agg (pv (cAt cs m).pen)) (wanted_none rfl) (by simp [execOp, Act.eval, e30, f30, go_sem, hx]) (sp_same (by kernel_rfl) hl hs hS (show (.agg (pv (cAt cs m).pen) : Value) = _ from rfl)) trivial
      refine SSteps.cons (fun a w' vs σ hS hl hs hk => ?_) ?_
      · have e31 : a.tmps.getD 31 undef = (.agg (pv (cAt cs m).pen) : Value) := (sk_val hk 10 (by kernel_rfl) rfl rfl).trans ((hk.1 10 (by kernel_rfl)).1)
        have f31 := gd e31
        exact ro_call (f := 86) (wanted_none rfl) rfl (by simp only [List.map_toArray, List.map_cons, List.map_nil, Act.eval, e31] <;> rfl) (fun _ _ => by kernel_rfl) ((cellBlank_any _ w').mono fun e w2 ⟨h1, h2⟩ => ⟨_, h1, sp_same (by kernel_rfl) hl hs (hS.bel h2) rfl, trivial⟩)
      refine SSteps.cons (fun a w' vs σ hS hl hs hk => ?_) ?_
      · have e0 : a.tmps.getD 0 undef = (.slice (some ⟨g, 0, none⟩) cs.length cap : Value) := (sk_old hk 0 (by kernel_rfl)).trans rfl
        have f0 := gd e0
        exact ro_pure (v := .slice (some ⟨g, 0, none⟩) cs.length cap) (wanted_none rfl) (by simp [execOp, Act.eval, e0, f0, go_sem]) (sp_same (by kernel_rfl) hl hs hS (show (.slice (some ⟨g, 0, none⟩) cs.length cap : Value) = _ from rfl)) trivial
      refine SSteps.cons (fun a w' vs σ hS hl hs hk => ?_) ?_
      · have e1 : a.tmps.getD 1 undef = (.int .i64 (↑m + 1) : Value) := (sk_old hk 1 (by kernel_rfl)).trans rfl
        have f1 := gd e1
        exact ro_pure (v := .int .i64 (↑m + 1)) (wanted_none rfl) (by simp [execOp, Act.eval, e1, f1, go_sem]) (sp_same (by kernel_rfl) hl hs hS (show (.int .i64 (↑m + 1) : Value) = _ from rfl)) trivial
      refine SSteps.cons (fun a w' vs σ hS hl hs hk => ?_) ?_
      · have e33 : a.tmps.getD 33 undef = (.slice (some ⟨g, 0, none⟩) cs.length cap : Value) := (sk_val hk 12 (by kernel_rfl) rfl rfl).trans ((hk.1 12 (by kernel_rfl)).1)
        have f33 := gd e33
        have e34 : a.tmps.getD 34 undef = (.int .i64 (↑m + 1) : Value) := (sk_val hk 13 (by kernel_rfl) rfl rfl).trans ((hk.1 13 (by kernel_rfl)).1)
        have f34 := gd e34
        exact ro_pure (v := .pointer (some ⟨g, (m + 1) * 16, none⟩)) (wanted_none rfl) (by simp [execOp, Act.eval, e33, f33, e34, f34, go_sem, hb2, hb3, ht1]) (sp_same (by kernel_rfl) hl hs hS (show (.pointer (some ⟨g, (m + 1) * 16, none⟩) : Value) = _ from rfl)) trivial
      refine SSteps.cons (fun a w' vs σ hS hl hs hk => ?_) ?_
      · have e35 : a.tmps.getD 35 undef = (.pointer (some ⟨g, (m + 1) * 16, none⟩) : Value) := (sk_val hk 14 (by kernel_rfl) rfl rfl).trans ((hk.1 14 (by kernel_rfl)).1)
        have f35 := gd e35
        exact ro_pure (v := .pointer (some ⟨g, (m + 1) * 16 + 5, none⟩)) (wanted_none rfl) (by simp [execOp, Act.eval, e35, f35, go_sem]) (sp_same (by kernel_rfl) hl hs hS (show (.pointer (some ⟨g, (m + 1) * 16 + 5, none⟩) : Value) = _ from rfl)) trivial
      refine SSteps.cons (fun a w' vs σ hS hl hs hk => ?_) ?_
      · have e36 : a.tmps.getD 36 undef = (.pointer (some ⟨g, (m + 1) * 16 + 5, none⟩) : Value) := (sk_val hk 15 (by kernel_rfl) rfl rfl).trans ((hk.1 15 (by kernel_rfl)).1)
        have f36 := gd e36
        have hc := cells_facts hS (sg (hs 0 (by decide))) (i := m + 1) (c := cAt cs (m + 1)) hat1
        have hx := hc.2.1
        exact ro_pure (v := .agg (pv (cAt cs (m + 1)).pen)) (wanted_none rfl) (by simp [execOp, Act.eval, e36, f36, go_sem, hx]) (sp_same (by kernel_rfl) hl hs hS (show (.agg (pv (cAt cs (m + 1)).pen) : Value) = _ from rfl)) trivial
      refine SSteps.cons (fun a w' vs σ hS hl hs hk => ?_) ?_
      · have e37 : a.tmps.getD 37 undef = (.agg (pv (cAt cs (m + 1)).pen) : Value) := (sk_val hk 16 (by kernel_rfl) rfl rfl).trans ((hk.1 16 (by kernel_rfl)).1)
        have f37 := gd e37
        exact ro_call (f := 86) (wanted_none rfl) rfl (by simp only [List.map_toArray, List.map_cons, List.map_nil, Act.eval, e37] <;> rfl) (fun _ _ => by kernel_rfl) ((cellBlank_any _ w').mono fun e w2 ⟨h1, h2⟩ => ⟨_, h1, sp_same (by kernel_rfl) hl hs (hS.bel h2) rfl, trivial⟩)
      refine SSteps.cons (fun a w' vs σ hS hl hs hk => ?_) ?_
      · have e21 : a.tmps.getD 21 undef = (.slice (some ⟨g, 0, none⟩) cs.length cap : Value) := (sk_val hk 0 (by kernel_rfl) rfl rfl).trans ((hk.1 0 (by kernel_rfl)).1)
        have f21 := gd e21
        have e23 : a.tmps.getD 23 undef = (.int .i64 ↑m : Value) := (sk_val hk 2 (by kernel_rfl) rfl rfl).trans ((hk.1 2 (by kernel_rfl)).1)
        have f23 := gd e23
        exact ro_pure (v := .pointer (some ⟨g, m * 16, none⟩)) (wanted_none rfl) (by simp [execOp, Act.eval, e21, f21, e23, f23, go_sem, hb0, hb1]) (sp_same (by kernel_rfl) hl hs hS (show (.pointer (some ⟨g, m * 16, none⟩) : Value) = _ from rfl)) trivial
      refine SSteps.cons (fun a w' vs σ hS hl hs hk => ?_) ?_
      · have e39 : a.tmps.getD 39 undef = (.pointer (some ⟨g, m * 16, none⟩) : Value) := (sk_val hk 18 (by kernel_rfl) rfl rfl).trans ((hk.1 18 (by kernel_rfl)).1)
        have f39 := gd e39
        have e32 : a.tmps.getD 32 undef = (.agg (cv (blank (cAt cs m).pen)) : Value) := (sk_val hk 11 (by kernel_rfl) rfl rfl).trans ((hk.1 11 (by kernel_rfl)).1)
        have f32 := gd e32
        obtain ⟨W, hst, ho, hg⟩ := (hS.own (sg (hs 0 (by decide)))).putAt (k := m) (by omega) (blank (cAt cs m).pen)
        exact rstep_store (wanted_none rfl) rfl (by simp [execOp, Act.eval, e39, f39, e32, f32, hst, go_sem]) (sp_set 0 (.cells (.slice (some ⟨g, 0, none⟩) cs.length cap) (cs.set m (blank (cAt cs m).pen))) (by kernel_rfl) (by simp) (by decide) hl hs (by rfl) (hS.cellsUpd (sg (hs 0 (by decide))) ho hg) trivial) trivial
      refine SSteps.cons (fun a w' vs σ hS hl hs hk => ?_) ?_
      · have e24 : a.tmps.getD 24 undef = (.slice (some ⟨g, 0, none⟩) cs.length cap : Value) := (sk_val hk 3 (by kernel_rfl) rfl rfl).trans ((hk.1 3 (by kernel_rfl)).1)
        have f24 := gd e24
        have e25 : a.tmps.getD 25 undef = (.int .i64 (↑m + 1) : Value) := (sk_val hk 4 (by kernel_rfl) rfl rfl).trans ((hk.1 4 (by kernel_rfl)).1)
        have f25 := gd e25
        exact ro_pure (v := .pointer (some ⟨g, (m + 1) * 16, none⟩)) (wanted_none rfl) (by simp [execOp, Act.eval, e24, f24, e25, f25, go_sem, hb2, hb3, ht1]) (sp_same (by kernel_rfl) hl hs hS (show (.pointer (some ⟨g, (m + 1) * 16, none⟩) : Value) = _ from rfl)) trivial
      refine SSteps.cons (fun a w' vs σ hS hl hs hk => ?_) ?_
      · have e40 : a.tmps.getD 40 undef = (.pointer (some ⟨g, (m + 1) * 16, none⟩) : Value) := (sk_val hk 20 (by kernel_rfl) rfl rfl).trans ((hk.1 20 (by kernel_rfl)).1)
        have f40 := gd e40
        have e38 : a.tmps.getD 38 undef = (.agg (cv (blank (cAt cs (m + 1)).pen)) : Value) := (sk_val hk 17 (by kernel_rfl) rfl rfl).trans ((hk.1 17 (by kernel_rfl)).1)
        have f38 := gd e38
        obtain ⟨W, hst, ho, hg⟩ := (hS.own (sg (hs 0 (by decide)))).putAt (k := m + 1) (by simp; omega) (blank (cAt cs (m + 1)).pen)
        exact rstep_store (wanted_none rfl) rfl (by simp [execOp, Act.eval, e40, f40, e38, f38, hst, go_sem]) (sp_set 0 (.cells (.slice (some ⟨g, 0, none⟩) cs.length cap) ((cs.set m (blank (cAt cs m).pen)).set (m + 1) (blank (cAt cs (m + 1)).pen))) (by kernel_rfl) (by simp) (by decide) hl hs (by rfl) (hS.cellsUpd (sg (hs 0 (by decide))) ho hg) trivial) trivial
      exact SSteps.nil
    · intro vs w' hS hv
      have q0 := (show vs 0 = (.slice (some ⟨g, 0, none⟩) cs.length cap : Value) from hv 0 (by decide))
      have q1 := (show vs 1 = (.int .i64 (↑m + 1) : Value) from hv 1 (by decide))
      have q2 := (show vs 2 = (.int .i64 ↑m : Value) from hv 2 (by decide))
      have q3 := (show vs 3 = (.slice (some ⟨g, 0, none⟩) cs.length cap : Value) from hv 3 (by decide))
      have q4 := (show vs 4 = (.int .i64 (↑m + 1) : Value) from hv 4 (by decide))
      have q5 := (show vs 5 = (.slice (some ⟨g, 0, none⟩) cs.length cap : Value) from hv 5 (by decide))
      have q6 := (show vs 6 = (.int .i64 (↑m + 1) : Value) from hv 6 (by decide))
      have q7 := (show vs 7 = (.int .i64 ↑m : Value) from hv 7 (by decide))
      have q8 := (show vs 8 = (.pointer (some ⟨g, m * 16, none⟩) : Value) from hv 8 (by decide))
      have q9 := (show vs 9 = (.pointer (some ⟨g, m * 16 + 5, none⟩) : Value) from hv 9 (by decide))
      have q10 := (show vs 10 = (.agg (pv (cAt cs m).pen) : Value) from hv 10 (by decide))
      have q11 := (show vs 11 = (.agg (cv (blank (cAt cs m).pen)) : Value) from hv 11 (by decide))
      have q12 := (show vs 12 = (.slice (some ⟨g, 0, none⟩) cs.length cap : Value) from hv 12 (by decide))
      have q13 := (show vs 13 = (.int .i64 (↑m + 1) : Value) from hv 13 (by decide))
      have q14 := (show vs 14 = (.pointer (some ⟨g, (m + 1) * 16, none⟩) : Value) from hv 14 (by decide))
      have q15 := (show vs 15 = (.pointer (some ⟨g, (m + 1) * 16 + 5, none⟩) : Value) from hv 15 (by decide))
      have q16 := (show vs 16 = (.agg (pv (cAt cs (m + 1)).pen) : Value) from hv 16 (by decide))
      have q17 := (show vs 17 = (.agg (cv (blank (cAt cs (m + 1)).pen)) : Value) from hv 17 (by decide))
      have q18 := (show vs 18 = (.pointer (some ⟨g, m * 16, none⟩) : Value) from hv 18 (by decide))
      have q20 := (show vs 20 = (.pointer (some ⟨g, (m + 1) * 16, none⟩) : Value) from hv 20 (by decide))
      have S2 := Lib.hid hS
      simp only [putL, Act.put, Nat.zero_add, Nat.reduceAdd, List.setIfInBounds_toArray, List.set_cons_succ, List.set_cons_zero, q0, q1, q2, q3, q4, q5, q6, q7, q8, q9, q10, q11, q12, q13, q14, q15, q16, q17, q18, q20]
      clear hS hv q0 q1 q2 q3 q4 q5 q6 q7 q8 q9 q10 q11 q12 q13 q14 q15 q16 q17 q18 q20
      go_wp2_with fail
      go_end0
      exact ⟨rfl, by rw [HB.out]; exact S2.out⟩
set_option maxRecDepth 100000 in
set_option maxHeartbeats 2000000 in
theorem break_front (A : Option Addr) (cap : Nat) (cs : List Cell) (n : Int) (c : Nat) (hn : n = (c : Int)) (w0 w : World) (os : List Ob) (hS : Objs w0 w (.cells (.slice A cs.length cap) cs :: os)) (hlen : cs.length ≤ 1000000) (hc : c ≤ 2000000) :
    Calls Tryd.prog 88 #[.slice A cs.length cap, .int .i64 n] w fun e w' => e = .returned (.tuple #[]) ∧ Objs w0 w' (.cells (.slice A cs.length cap) (brk c cs) :: os) := by
  subst hn
  have S := Lib.hid hS
  clear hS
  cases c with
  | zero =>
    show Calls _ _ #[_, .int .i64 0] _ _
    go_enter Tryd.func88, Tryd.ntmps88
    go_wp2_with fail
    go_end0
    exact ⟨rfl, S.out⟩
  | succ m =>
  simp only [Int.natCast_add, Int.natCast_one]
  by_cases hlt : m + 1 < cs.length
  case neg =>
    have HB := Lib.hid (show brk (m + 1) cs = cs by rw [brk_succ, if_neg (by omega)])
    have hge : ¬ ((m : Int) + 1 < cs.length) := by omega
    go_enter Tryd.func88, Tryd.ntmps88
    go_wp2_with fail
    go_end0
    exact ⟨rfl, by rw [HB.out]; exact S.out⟩
  obtain ⟨g, rfl, -, -, -, -⟩ := (S.out.own (k := 0) rfl).head (by omega)
  have hat0 : cs[m]? = some (cAt cs m) := by rw [cAt_eq (by omega)]; simp [show m < cs.length by omega]
  have hat1 : cs[m + 1]? = some (cAt cs (m + 1)) := by rw [cAt_eq hlt]; simp [hlt]
  by_cases hw : (cAt cs m).width = 2
  case neg =>
    have HB := Lib.hid (show brk (m + 1) cs = cs by rw [brk_succ, if_neg (by simp [hw])])
    obtain ⟨hx, -⟩ := cells_facts S.out (k := 0) rfl hat0
    have hw1 := beq_no hw
    have hw2 := bne_yes hw
    clear hat0 hat1 hw
    go_enter Tryd.func88, Tryd.ntmps88
    go_wp2_with fail
    go_end0
    exact ⟨rfl, by rw [HB.out]; exact S.out⟩
  have HB := Lib.hid (show brk (m + 1) cs = (cs.set m (blank (cAt cs m).pen)).set (m + 1) (blank (cAt cs (m + 1)).pen) by rw [brk_succ, if_pos ⟨hlt, hw⟩])
  obtain ⟨hx, -⟩ := cells_facts S.out (k := 0) rfl hat0
  have hw1 := beq_yes hw
  have hw2 := bne_no hw
  have HW := Lib.hid hw
  clear hw
  go_enter Tryd.func88, Tryd.ntmps88
  go_upto_region 1 with (fail)
  · clear hx hw1 hw2
    have hwm : IntKind.i64.wrap (m : Int) = (m : Int) := IntWalk.i64_in _ (by omega)
    have hb0 : (0 : Int) ≤ (m : Int) := by omega
    have hb1 : (m : Int) < (cs.length : Int) := by omega
    have hb2 : (0 : Int) ≤ (m : Int) + 1 := by omega
    have hb3 : (m : Int) + 1 < (cs.length : Int) := by omega
    have ht1 : ((m : Int) + 1).toNat = m + 1 := by omega
    refine wp_region_stage (w0 := w0) (os := os) (by kernel_rfl) (by kernel_rfl) (by kernel_rfl) [(0, 19, [], fun vs => .cells (.slice (some ⟨g, 0, none⟩) cs.length cap) (cs.set m (blank (cAt cs m).pen))), (0, 21, [], fun vs => .cells (.slice (some ⟨g, 0, none⟩) cs.length cap) ((cs.set m (blank (cAt cs m).pen)).set (m + 1) (blank (cAt cs (m + 1)).pen)))] [[], [], [], [], [], [], [], [], [], [], [0], [], [], [], [], [], [0], [], [], [0], [], [0]] [.cells (.slice (some ⟨g, 0, none⟩) cs.length cap) cs] (fun i u => match i with | 0 => u = (.slice (some ⟨g, 0, none⟩) cs.length cap : Value) | 1 => u = (.int .i64 (↑m + 1) : Value) | 2 => u = (.int .i64 ↑m : Value) | 3 => u = (.slice (some ⟨g, 0, none⟩) cs.length cap : Value) | 4 => u = (.int .i64 (↑m + 1) : Value) | 5 => u = (.slice (some ⟨g, 0, none⟩) cs.length cap : Value) | 6 => u = (.int .i64 (↑m + 1) : Value) | 7 => u = (.int .i64 ↑m : Value) | 8 => u = (.pointer (some ⟨g, m * 16, none⟩) : Value) | 9 => u = (.pointer (some ⟨g, m * 16 + 5, none⟩) : Value) | 10 => u = (.agg (pv (cAt cs m).pen) : Value) | 11 => u = (.agg (cv (blank (cAt cs m).pen)) : Value) | 12 => u = (.slice (some ⟨g, 0, none⟩) cs.length cap : Value) | 13 => u = (.int .i64 (↑m + 1) : Value) | 14 => u = (.pointer (some ⟨g, (m + 1) * 16, none⟩) : Value) | 15 => u = (.pointer (some ⟨g, (m + 1) * 16 + 5, none⟩) : Value) | 16 => u = (.agg (pv (cAt cs (m + 1)).pen) : Value) | 17 => u = (.agg (cv (blank (cAt cs (m + 1)).pen)) : Value) | 18 => u = (.pointer (some ⟨g, m * 16, none⟩) : Value) | 19 => True | 20 => u = (.pointer (some ⟨g, (m + 1) * 16, none⟩) : Value) | 21 => True | _ => True) (fun vs => [.cells (.slice (some ⟨g, 0, none⟩) cs.length cap) ((cs.set m (blank (cAt cs m).pen)).set (m + 1) (blank (cAt cs (m + 1)).pen))]) (by kernel_rfl) (fun vs => by rfl) S.out ?_ ?_
    · refine SSteps.cons (fun a w' vs σ hS hl hs hk => ?_) ?_
      · have e0 : a.tmps.getD 0 undef = (.slice (some ⟨g, 0, none⟩) cs.length cap : Value) := (sk_old hk 0 (by kernel_rfl)).trans rfl
        have f0 := gd e0
        exact ro_pure (v := .slice (some ⟨g, 0, none⟩) cs.length cap) (wanted_none rfl) (by simp [execOp, Act.eval, e0, f0, go_sem]) (sp_same (by kernel_rfl) hl hs hS (show (.slice (some ⟨g, 0, none⟩) cs.length cap : Value) = _ from rfl)) trivial
      refine SSteps.cons (fun a w' vs σ hS hl hs hk => ?_) ?_
      · have e1 : a.tmps.getD 1 undef = (.int .i64 (↑m + 1) : Value) := (sk_old hk 1 (by kernel_rfl)).trans rfl
        have f1 := gd e1
        exact ro_pure (v := .int .i64 (↑m + 1)) (wanted_none rfl) (by simp [execOp, Act.eval, e1, f1, go_sem]) (sp_same (by kernel_rfl) hl hs hS (show (.int .i64 (↑m + 1) : Value) = _ from rfl)) trivial
      refine SSteps.cons (fun a w' vs σ hS hl hs hk => ?_) ?_
      · have e22 : a.tmps.getD 22 undef = (.int .i64 (↑m + 1) : Value) := (sk_val hk 1 (by kernel_rfl) rfl rfl).trans ((hk.1 1 (by kernel_rfl)).1)
        have f22 := gd e22
        exact ro_pure (v := .int .i64 ↑m) (wanted_none rfl) (by simp [execOp, Act.eval, e22, f22, go_sem, hwm]) (sp_same (by kernel_rfl) hl hs hS (show (.int .i64 ↑m : Value) = _ from rfl)) trivial
      refine SSteps.cons (fun a w' vs σ hS hl hs hk => ?_) ?_
      · have e0 : a.tmps.getD 0 undef = (.slice (some ⟨g, 0, none⟩) cs.length cap : Value) := (sk_old hk 0 (by kernel_rfl)).trans rfl
        have f0 := gd e0
        exact ro_pure (v := .slice (some ⟨g, 0, none⟩) cs.length cap) (wanted_none rfl) (by simp [execOp, Act.eval, e0, f0, go_sem]) (sp_same (by kernel_rfl) hl hs hS (show (.slice (some ⟨g, 0, none⟩) cs.length cap : Value) = _ from rfl)) trivial
      refine SSteps.cons (fun a w' vs σ hS hl hs hk => ?_) ?_
      · have e1 : a.tmps.getD 1 undef = (.int .i64 (↑m + 1) : Value) := (sk_old hk 1 (by kernel_rfl)).trans rfl
        have f1 := gd e1
        exact ro_pure (v := .int .i64 (↑m + 1)) (wanted_none rfl) (by simp [execOp, Act.eval, e1, f1, go_sem]) (sp_same (by kernel_rfl) hl hs hS (show (.int .i64 (↑m + 1) : Value) = _ from rfl)) trivial
      refine SSteps.cons (fun a w' vs σ hS hl hs hk => ?_) ?_
      · have e0 : a.tmps.getD 0 undef = (.slice (some ⟨g, 0, none⟩) cs.length cap : Value) := (sk_old hk 0 (by kernel_rfl)).trans rfl
        have f0 := gd e0
        exact ro_pure (v := .slice (some ⟨g, 0, none⟩) cs.length cap) (wanted_none rfl) (by simp [execOp, Act.eval, e0, f0, go_sem]) (sp_same (by kernel_rfl) hl hs hS (show (.slice (some ⟨g, 0, none⟩) cs.length cap : Value) = _ from rfl)) trivial
      refine SSteps.cons (fun a w' vs σ hS hl hs hk => ?_) ?_
      · have e1 : a.tmps.getD 1 undef = (.int .i64 (↑m + 1) : Value) := (sk_old hk 1 (by kernel_rfl)).trans rfl
        have f1 := gd e1
        exact ro_pure (v := .int .i64 (↑m + 1)) (wanted_none rfl) (by simp [execOp, Act.eval, e1, f1, go_sem]) (sp_same (by kernel_rfl) hl hs hS (show (.int .i64 (↑m + 1) : Value) = _ from rfl)) trivial
      refine SSteps.cons (fun a w' vs σ hS hl hs hk => ?_) ?_
      · have e27 : a.tmps.getD 27 undef = (.int .i64 (↑m + 1) : Value) := (sk_val hk 6 (by kernel_rfl) rfl rfl).trans ((hk.1 6 (by kernel_rfl)).1)
        have f27 := gd e27
        exact ro_pure (v := .int .i64 ↑m) (wanted_none rfl) (by simp [execOp, Act.eval, e27, f27, go_sem, hwm]) (sp_same (by kernel_rfl) hl hs hS (show (.int .i64 ↑m : Value) = _ from rfl)) trivial
      refine SSteps.cons (fun a w' vs σ hS hl hs hk => ?_) ?_
      · have e26 : a.tmps.getD 26 undef = (.slice (some ⟨g, 0, none⟩) cs.length cap : Value) := (sk_val hk 5 (by kernel_rfl) rfl rfl).trans ((hk.1 5 (by kernel_rfl)).1)
        have f26 := gd e26
        have e28 : a.tmps.getD 28 undef = (.int .i64 ↑m : Value) := (sk_val hk 7 (by kernel_rfl) rfl rfl).trans ((hk.1 7 (by kernel_rfl)).1)
        have f28 := gd e28
        exact ro_pure (v := .pointer (some ⟨g, m * 16, none⟩)) (wanted_none rfl) (by simp [execOp, Act.eval, e26, f26, e28, f28, go_sem, hb0, hb1]) (sp_same (by kernel_rfl) hl hs hS (show (.pointer (some ⟨g, m * 16, none⟩) : Value) = _ from rfl)) trivial
      refine SSteps.cons (fun a w' vs σ hS hl hs hk => ?_) ?_
      · have e29 : a.tmps.getD 29 undef = (.pointer (some ⟨g, m * 16, none⟩) : Value) := (sk_val hk 8 (by kernel_rfl) rfl rfl).trans ((hk.1 8 (by kernel_rfl)).1)
        have f29 := gd e29
        exact ro_pure (v := .pointer (some ⟨g, m * 16 + 5, none⟩)) (wanted_none rfl) (by simp [execOp, Act.eval, e29, f29, go_sem]) (sp_same (by kernel_rfl) hl hs hS (show (.pointer (some ⟨g, m * 16 + 5, none⟩) : Value) = _ from rfl)) trivial
      refine SSteps.cons (fun a w' vs σ hS hl hs hk => ?_) ?_
      · have e30 : a.tmps.getD 30 undef = (.pointer (some ⟨g, m * 16 + 5, none⟩) : Value) := (sk_val hk 9 (by kernel_rfl) rfl rfl).trans ((hk.1 9 (by kernel_rfl)).1)
        have f30 := gd e30
        have hc := cells_facts hS (sg (hs 0 (by decide))) (i := m) (c := cAt cs m) hat0
        have hx := hc.2.1
        exact ro_pure (v := .agg (pv (cAt cs m).pen)) (wanted_none rfl) (by simp [execOp, Act.eval, e30, f30, go_sem, hx]) (sp_same (by kernel_rfl) hl hs hS (show (.agg (pv (cAt cs m).pen) : Value) = _ from rfl)) trivial
      refine SSteps.cons (fun a w' vs σ hS hl hs hk => ?_) ?_
      · have e31 : a.tmps.getD 31 undef = (.agg (pv (cAt cs m).pen) : Value) := (sk_val hk 10 (by kernel_rfl) rfl rfl).trans ((hk.1 10 (by kernel_rfl)).1)
        have f31 := gd e31
        exact ro_call (f := 29) (wanted_none rfl) rfl (by simp only [List.map_toArray, List.map_cons, List.map_nil, Act.eval, e31] <;> rfl) (fun _ _ => by kernel_rfl) ((r14Blank_any _ w').mono fun e w2 ⟨h1, h2⟩ => ⟨_, h1, sp_same (by kernel_rfl) hl hs (hS.bel h2) rfl, trivial⟩)
      refine SSteps.cons (fun a w' vs σ hS hl hs hk => ?_) ?_
      · have e0 : a.tmps.getD 0 undef = (.slice (some ⟨g, 0, none⟩) cs.length cap : Value) := (sk_old hk 0 (by kernel_rfl)).trans rfl
        have f0 := gd e0
        exact ro_pure (v := .slice (some ⟨g, 0, none⟩) cs.length cap) (wanted_none rfl) (by simp [execOp, Act.eval, e0, f0, go_sem]) (sp_same (by kernel_rfl) hl hs hS (show (.slice (some ⟨g, 0, none⟩) cs.length cap : Value) = _ from rfl)) trivial
      refine SSteps.cons (fun a w' vs σ hS hl hs hk => ?_) ?_
      · have e1 : a.tmps.getD 1 undef = (.int .i64 (↑m + 1) : Value) := (sk_old hk 1 (by kernel_rfl)).trans rfl
        have f1 := gd e1
        exact ro_pure (v := .int .i64 (↑m + 1)) (wanted_none rfl) (by simp [execOp, Act.eval, e1, f1, go_sem]) (sp_same (by kernel_rfl) hl hs hS (show (.int .i64 (↑m + 1) : Value) = _ from rfl)) trivial
      refine SSteps.cons (fun a w' vs σ hS hl hs hk => ?_) ?_
      · have e33 : a.tmps.getD 33 undef = (.slice (some ⟨g, 0, none⟩) cs.length cap : Value) := (sk_val hk 12 (by kernel_rfl) rfl rfl).trans ((hk.1 12 (by kernel_rfl)).1)
        have f33 := gd e33
        have e34 : a.tmps.getD 34 undef = (.int .i64 (↑m + 1) : Value) := (sk_val hk 13 (by kernel_rfl) rfl rfl).trans ((hk.1 13 (by kernel_rfl)).1)
        have f34 := gd e34
        exact ro_pure (v := .pointer (some ⟨g, (m + 1) * 16, none⟩)) (wanted_none rfl) (by simp [execOp, Act.eval, e33, f33, e34, f34, go_sem, hb2, hb3, ht1]) (sp_same (by kernel_rfl) hl hs hS (show (.pointer (some ⟨g, (m + 1) * 16, none⟩) : Value) = _ from rfl)) trivial
      refine SSteps.cons (fun a w' vs σ hS hl hs hk => ?_) ?_
      · have e35 : a.tmps.getD 35 undef = (.pointer (some ⟨g, (m + 1) * 16, none⟩) : Value) := (sk_val hk 14 (by kernel_rfl) rfl rfl).trans ((hk.1 14 (by kernel_rfl)).1)
        have f35 := gd e35
        exact ro_pure (v := .pointer (some ⟨g, (m + 1) * 16 + 5, none⟩)) (wanted_none rfl) (by simp [execOp, Act.eval, e35, f35, go_sem]) (sp_same (by kernel_rfl) hl hs hS (show (.pointer (some ⟨g, (m + 1) * 16 + 5, none⟩) : Value) = _ from rfl)) trivial
      refine SSteps.cons (fun a w' vs σ hS hl hs hk => ?_) ?_
      · have e36 : a.tmps.getD 36 undef = (.pointer (some ⟨g, (m + 1) * 16 + 5, none⟩) : Value) := (sk_val hk 15 (by kernel_rfl) rfl rfl).trans ((hk.1 15 (by kernel_rfl)).1)
        have f36 := gd e36
        have hc := cells_facts hS (sg (hs 0 (by decide))) (i := m + 1) (c := cAt cs (m + 1)) hat1
        have hx := hc.2.1
        exact ro_pure (v := .agg (pv (cAt cs (m + 1)).pen)) (wanted_none rfl) (by simp [execOp, Act.eval, e36, f36, go_sem, hx]) (sp_same (by kernel_rfl) hl hs hS (show (.agg (pv (cAt cs (m + 1)).pen) : Value) = _ from rfl)) trivial
      refine SSteps.cons (fun a w' vs σ hS hl hs hk => ?_) ?_
      · have e37 : a.tmps.getD 37 undef = (.agg (pv (cAt cs (m + 1)).pen) : Value) := (sk_val hk 16 (by kernel_rfl) rfl rfl).trans ((hk.1 16 (by kernel_rfl)).1)
        have f37 := gd e37
        exact ro_call (f := 29) (wanted_none rfl) rfl (by simp only [List.map_toArray, List.map_cons, List.map_nil, Act.eval, e37] <;> rfl) (fun _ _ => by kernel_rfl) ((r14Blank_any _ w').mono fun e w2 ⟨h1, h2⟩ => ⟨_, h1, sp_same (by kernel_rfl) hl hs (hS.bel h2) rfl, trivial⟩)
      refine SSteps.cons (fun a w' vs σ hS hl hs hk => ?_) ?_
      · have e21 : a.tmps.getD 21 undef = (.slice (some ⟨g, 0, none⟩) cs.length cap : Value) := (sk_val hk 0 (by kernel_rfl) rfl rfl).trans ((hk.1 0 (by kernel_rfl)).1)
        have f21 := gd e21
        have e23 : a.tmps.getD 23 undef = (.int .i64 ↑m : Value) := (sk_val hk 2 (by kernel_rfl) rfl rfl).trans ((hk.1 2 (by kernel_rfl)).1)
        have f23 := gd e23
        exact ro_pure (v := .pointer (some ⟨g, m * 16, none⟩)) (wanted_none rfl) (by simp [execOp, Act.eval, e21, f21, e23, f23, go_sem, hb0, hb1]) (sp_same (by kernel_rfl) hl hs hS (show (.pointer (some ⟨g, m * 16, none⟩) : Value) = _ from rfl)) trivial
      refine SSteps.cons (fun a w' vs σ hS hl hs hk => ?_) ?_
      · have e39 : a.tmps.getD 39 undef = (.pointer (some ⟨g, m * 16, none⟩) : Value) := (sk_val hk 18 (by kernel_rfl) rfl rfl).trans ((hk.1 18 (by kernel_rfl)).1)
        have f39 := gd e39
        have e32 : a.tmps.getD 32 undef = (.agg (cv (blank (cAt cs m).pen)) : Value) := (sk_val hk 11 (by kernel_rfl) rfl rfl).trans ((hk.1 11 (by kernel_rfl)).1)
        have f32 := gd e32
        obtain ⟨W, hst, ho, hg⟩ := (hS.own (sg (hs 0 (by decide)))).putAt (k := m) (by omega) (blank (cAt cs m).pen)
        exact rstep_store (wanted_none rfl) rfl (by simp [execOp, Act.eval, e39, f39, e32, f32, hst, go_sem]) (sp_set 0 (.cells (.slice (some ⟨g, 0, none⟩) cs.length cap) (cs.set m (blank (cAt cs m).pen))) (by kernel_rfl) (by simp) (by decide) hl hs (by rfl) (hS.cellsUpd (sg (hs 0 (by decide))) ho hg) trivial) trivial
      refine SSteps.cons (fun a w' vs σ hS hl hs hk => ?_) ?_
      · have e24 : a.tmps.getD 24 undef = (.slice (some ⟨g, 0, none⟩) cs.length cap : Value) := (sk_val hk 3 (by kernel_rfl) rfl rfl).trans ((hk.1 3 (by kernel_rfl)).1)
        have f24 := gd e24
        have e25 : a.tmps.getD 25 undef = (.int .i64 (↑m + 1) : Value) := (sk_val hk 4 (by kernel_rfl) rfl rfl).trans ((hk.1 4 (by kernel_rfl)).1)
        have f25 := gd e25
        exact ro_pure (v := .pointer (some ⟨g, (m + 1) * 16, none⟩)) (wanted_none rfl) (by simp [execOp, Act.eval, e24, f24, e25, f25, go_sem, hb2, hb3, ht1]) (sp_same (by kernel_rfl) hl hs hS (show (.pointer (some ⟨g, (m + 1) * 16, none⟩) : Value) = _ from rfl)) trivial
      refine SSteps.cons (fun a w' vs σ hS hl hs hk => ?_) ?_
      · have e40 : a.tmps.getD 40 undef = (.pointer (some ⟨g, (m + 1) * 16, none⟩) : Value) := (sk_val hk 20 (by kernel_rfl) rfl rfl).trans ((hk.1 20 (by kernel_rfl)).1)
        have f40 := gd e40
        have e38 : a.tmps.getD 38 undef = (.agg (cv (blank (cAt cs (m + 1)).pen)) : Value) := (sk_val hk 17 (by kernel_rfl) rfl rfl).trans ((hk.1 17 (by kernel_rfl)).1)
        have f38 := gd e38
        obtain ⟨W, hst, ho, hg⟩ := (hS.own (sg (hs 0 (by decide)))).putAt (k := m + 1) (by simp; omega) (blank (cAt cs (m + 1)).pen)
        exact rstep_store (wanted_none rfl) rfl (by simp [execOp, Act.eval, e40, f40, e38, f38, hst, go_sem]) (sp_set 0 (.cells (.slice (some ⟨g, 0, none⟩) cs.length cap) ((cs.set m (blank (cAt cs m).pen)).set (m + 1) (blank (cAt cs (m + 1)).pen))) (by kernel_rfl) (by simp) (by decide) hl hs (by rfl) (hS.cellsUpd (sg (hs 0 (by decide))) ho hg) trivial) trivial
      exact SSteps.nil
    · intro vs w' hS hv
      have q0 := (show vs 0 = (.slice (some ⟨g, 0, none⟩) cs.length cap : Value) from hv 0 (by decide))
      have q1 := (show vs 1 = (.int .i64 (↑m + 1) : Value) from hv 1 (by decide))
      have q2 := (show vs 2 = (.int .i64 ↑m : Value) from hv 2 (by decide))
      have q3 := (show vs 3 = (.slice (some ⟨g, 0, none⟩) cs.length cap : Value) from hv 3 (by decide))
      have q4 := (show vs 4 = (.int .i64 (↑m + 1) : Value) from hv 4 (by decide))
      have q5 := (show vs 5 = (.slice (some ⟨g, 0, none⟩) cs.length cap : Value) from hv 5 (by decide))
      have q6 := (show vs 6 = (.int .i64 (↑m + 1) : Value) from hv 6 (by decide))
      have q7 := (show vs 7 = (.int .i64 ↑m : Value) from hv 7 (by decide))
      have q8 := (show vs 8 = (.pointer (some ⟨g, m * 16, none⟩) : Value) from hv 8 (by decide))
      have q9 := (show vs 9 = (.pointer (some ⟨g, m * 16 + 5, none⟩) : Value) from hv 9 (by decide))
      have q10 := (show vs 10 = (.agg (pv (cAt cs m).pen) : Value) from hv 10 (by decide))
      have q11 := (show vs 11 = (.agg (cv (blank (cAt cs m).pen)) : Value) from hv 11 (by decide))
      have q12 := (show vs 12 = (.slice (some ⟨g, 0, none⟩) cs.length cap : Value) from hv 12 (by decide))
      have q13 := (show vs 13 = (.int .i64 (↑m + 1) : Value) from hv 13 (by decide))
      have q14 := (show vs 14 = (.pointer (some ⟨g, (m + 1) * 16, none⟩) : Value) from hv 14 (by decide))
      have q15 := (show vs 15 = (.pointer (some ⟨g, (m + 1) * 16 + 5, none⟩) : Value) from hv 15 (by decide))
      have q16 := (show vs 16 = (.agg (pv (cAt cs (m + 1)).pen) : Value) from hv 16 (by decide))
      have q17 := (show vs 17 = (.agg (cv (blank (cAt cs (m + 1)).pen)) : Value) from hv 17 (by decide))
      have q18 := (show vs 18 = (.pointer (some ⟨g, m * 16, none⟩) : Value) from hv 18 (by decide))
      have q20 := (show vs 20 = (.pointer (some ⟨g, (m + 1) * 16, none⟩) : Value) from hv 20 (by decide))
      have S2 := Lib.hid hS
      simp only [putL, Act.put, Nat.zero_add, Nat.reduceAdd, List.setIfInBounds_toArray, List.set_cons_succ, List.set_cons_zero, q0, q1, q2, q3, q4, q5, q6, q7, q8, q9, q10, q11, q12, q13, q14, q15, q16, q17, q18, q20]
      clear hS hv q0 q1 q2 q3 q4 q5 q6 q7 q8 q9 q10 q11 q12 q13 q14 q15 q16 q17 q18 q20
      go_wp2_with fail
      go_end0
      exact ⟨rfl, by rw [HB.out]; exact S2.out⟩
theorem split_at {A : Option Addr} {n0 cap c : Nat} {cs : List Cell} {n : Int} {w0 w : World} {os : List Ob} (hS : Objs w0 w (.cells (.slice A n0 cap) cs :: os)) (hn0 : n0 = cs.length) (hn : n = (c : Int)) (hlen : cs.length ≤ 1000000) (hc : c ≤ 2000000) :
    Calls Tryd.prog 80 #[.slice A n0 cap, .int .i64 n] w fun e w' => e = .returned (.tuple #[]) ∧ Objs w0 w' (.cells (.slice A n0 cap) (brk c cs) :: os) := by
  subst hn0
  exact split_front A cap cs n c hn w0 w os hS hlen hc
theorem break_at {A : Option Addr} {n0 cap c : Nat} {cs : List Cell} {n : Int} {w0 w : World} {os : List Ob} (hS : Objs w0 w (.cells (.slice A n0 cap) cs :: os)) (hn0 : n0 = cs.length) (hn : n = (c : Int)) (hlen : cs.length ≤ 1000000) (hc : c ≤ 2000000) :
    Calls Tryd.prog 88 #[.slice A n0 cap, .int .i64 n] w fun e w' => e = .returned (.tuple #[]) ∧ Objs w0 w' (.cells (.slice A n0 cap) (brk c cs) :: os) := by
  subst hn0
  exact break_front A cap cs n c hn w0 w os hS hlen hc
end Go.Proofs.YtjligfbaljnhnaaDoor

/-
  append onto slices of cells and onto slices of lines, slices built of one cell or one line: as steps of the walk, and of regions that draw.
-/
set_option linter.unusedSimpArgs false
set_option linter.unusedVariables false
namespace Go.Proofs.YtjligfbaljnhnaaDoor
open Go.RowKit

theorem line_info : (Tryd.prog.info? 71).map (fun i => (i.zero, i.size, i.bytes)) = some (some (.agg #[.slice none 0 0, .bool false]), 2, 32) := by kernel_rfl
theorem set_self {α : Type} {l : List α} {k : Nat} {x : α} (h : l[k]? = some x) : l.set k x = l := by
  apply List.ext_getElem?
  intro n
  by_cases hn : k = n
  · subst hn; rw [List.getElem?_set_self (List.getElem?_eq_some_iff.1 h).1, h]
  · rw [List.getElem?_set_ne hn]
theorem lv_one {v : Value} {cs : List Cell} {w : World} {B : Nat} (h : OwnC w B v cs) : v.oneCell' = true := by
  obtain ⟨A, c, rfl, _⟩ := h.form
  rfl
section
variable {w0 w : World} {os : List Ob} {v b : Value} {cs ds : List Cell} {L : List Ln} {k j : Nat}
/-- append(v, x...) onto cells. -/
theorem run_appO (hS : Objs w0 w os) (hk : os[k]? = some (.cells v cs)) {A : Option Addr} {c : Nat} (hr : RdC w A c ds) (hlen : cs.length + ds.length ≤ 1000000) (ty : TypeId) :
    ∃ v' w', (Builtin.append_ #[52, 52] ty #[v, .slice A ds.length c]).run Tryd.prog w = .ok v' w' ∧ Objs w0 w' (os.set k (.cells v' (cs ++ ds))) ∧ ∃ A' c', v' = .slice A' (cs.length + ds.length) c' := by
  obtain ⟨i, hi, hz0, hz1, hz2⟩ := info_parts cell_info
  obtain ⟨h1, h2, h3⟩ := hr
  have hown := hS.own hk
  cases A with
  | none =>
    obtain rfl := h2 rfl
    obtain rfl : ds = [] := List.eq_nil_of_length_eq_zero (by omega)
    have hrun := run_append_owned_none (P := Tryd.prog) (w := w) 0 52 ty 65 i 16 Tryd.underlying52 hi v cs.length (flat cs) hown
    obtain ⟨A', c', e, _⟩ := hown.form
    refine ⟨v, w, hrun, ?_, A', c', by simpa using e⟩
    rw [List.append_nil, set_self hk]; exact hS
  | some ad =>
    obtain ⟨v', w', hrun, g1, g2, g3, g4⟩ := run_append_own_at (P := Tryd.prog) (w := w) 0 52 ty 65 i _ 16 64 Tryd.underlying52 hi hz0 hz1 hz2 (by simp [Value.cells, cv_size]) (by omega) v cs.length (flat cs) hown ad ds.length c (flat ds) (flat_length ds) (by
      intro j u hu
      have hj : j < ds.length * 16 := by have := (List.getElem?_eq_some_iff.1 hu).1; rwa [flat_length] at this
      obtain ⟨b, off, e, _, hr⟩ := h3 (by omega)
      cases e
      rw [add_at]; exact hr j u hu) (flat_one ds) (by simp only [maxLen]; omega) (by omega) (Nat.zero_le _)
    have ho' : OwnC w' 0 v' (cs ++ ds) := by unfold OwnC; rw [flat_append, List.length_append]; exact g1
    obtain ⟨A', c', e, _⟩ := ho'.form
    refine ⟨v', w', hrun, hS.upd hk (fun F hF => ⟨fun b => v'.ownBlock = some b, Chg.of_grown g2 F (fun b hb => (hF.2 b).2 hb), ⟨ho', fun _ => Iff.rfl⟩, fun b hb => ?_⟩), A', c', by simpa using e⟩
    rcases g4 with g4 | g4
    · exact .inl ((hF.2 b).2 (by rw [← g4]; exact hb))
    · rw [g4] at hb; cases hb; exact .inr (Nat.le_refl _)
theorem hdrs_snoc {bs : List Value} (h : bs.length = L.length) (b : Value) (l : Ln) : hdrs (bs ++ [b]) (L ++ [l]) = hdrs bs L ++ [b, .bool l.2] := hdrs_append (L2 := [l]) (b2 := [b]) h
/-- append(v, l) onto lines: the line's cells are the slice's from then on. -/
theorem run_appL (hS : Objs w0 w os) (hk : os[k]? = some (.lines v L)) (hj : os[j]? = some (.cells b cs)) (hkj : k ≠ j) {ad : Addr} {c : Nat} {s : Bool} (h0 : w.cell? ad = some b) (h1 : w.cell? (ad.add 1) = some (.bool s)) (hlen : L.length ≤ 1000000) (ty : TypeId) :
    ∃ v' w', (Builtin.append_ #[33, 33] ty #[v, .slice (some ad) 1 c]).run Tryd.prog w = .ok v' w' ∧ Objs w0 w' ((os.set k (.lines v' (L ++ [(cs, s)]))).set j .none) ∧ ∃ A' c', v' = .slice A' (L.length + 1) c' := by
  obtain ⟨i, hi, hz0, hz1, hz2⟩ := info_parts line_info
  obtain ⟨F, bs, hb1, hb2⟩ := hS.get hk
  have hob := hS.own hj
  obtain ⟨v', w', hrun, g1, g2, g3, g4⟩ := run_append_own_at (P := Tryd.prog) (w := w) 0 33 ty 71 i _ 2 32 Tryd.underlying33 hi hz0 hz1 hz2 (by simp [Value.cells]) (by omega) v L.length (hdrs bs L) hb1.own ad 1 c [b, .bool s] rfl (by
    intro j u hu
    match j with
    | 0 => simp at hu; subst hu; rw [Addr.add_zero']; exact h0
    | 1 => simp at hu; subst hu; exact h1
    | j + 2 => simp at hu) (by intro u hu; simp at hu; rcases hu with rfl | rfl; exact lv_one hob; rfl) (by simp only [maxLen]; omega) (by omega) (Nat.zero_le _)
  have hrow : w'.ownsRow 0 71 2 v' (L ++ [(cs, s)]).length (hdrs (bs ++ [b]) (L ++ [(cs, s)])) := by rw [hdrs_snoc hb1.len, List.length_append]; exact g1
  obtain ⟨A', c', e, _⟩ := own_form hrow
  refine ⟨v', w', hrun, hS.join hk hj hkj (fun F G hF hG hd => ?_), A', c', by simpa using e⟩
  obtain ⟨bs2, q1, q2⟩ := hF
  obtain rfl := hb1.same q1
  have hchg : Chg (fun x => v.ownBlock = some x) w w' := Chg.of_grown g2 _ (fun b hb => hb)
  have hnb : ∀ x, b.ownBlock = some x → ¬ (v.ownBlock = some x) := fun x hx hv => own_apart (by decide) q1.own hob hv hx
  refine ⟨LF v' (bs2 ++ [b]) none, fun _ => False, hchg.mono (fun x _ hx => .inl ((q2 x).2 (.inl hx))), ⟨bs2 ++ [b], ⟨by simp [q1.len], hrow, fun n x l _ hx hl => ?_, fun n m x y z hx hy hxz hyz => ?_⟩, fun _ => Iff.rfl⟩, fun _ hf => hf, fun _ _ hf => hf, fun x hx => ?_, fun _ hf => hf.elim⟩
  · rcases Nat.lt_or_ge n bs2.length with hn | hn
    · rw [List.getElem?_append_left hn] at hx
      rw [List.getElem?_append_left (by rw [← q1.len]; exact hn)] at hl
      have ho := q1.rows n x l (by simp) hx hl
      exact own_chg ho hchg (fun y hy hv => own_apart (by decide) q1.own ho hv hy)
    · have hn' : n = bs2.length := by have := (List.getElem?_eq_some_iff.1 hx).1; simp at this; omega
      subst hn'
      rw [List.getElem?_append_right (Nat.le_refl _)] at hx
      rw [q1.len, List.getElem?_append_right (Nat.le_refl _)] at hl
      simp at hx hl
      subst hx hl
      exact own_chg hob hchg hnb
  · have key : ∀ n x, (bs2 ++ [b])[n]? = some x → x.ownBlock = some z → (n < bs2.length ∧ bs2[n]? = some x) ∨ (n = bs2.length ∧ x = b) := fun n x hx _ => by
      rcases Nat.lt_or_ge n bs2.length with hn | hn
      · rw [List.getElem?_append_left hn] at hx; exact .inl ⟨hn, hx⟩
      · have hn' : n = bs2.length := by have := (List.getElem?_eq_some_iff.1 hx).1; simp at this; omega
        subst hn'
        rw [List.getElem?_append_right (Nat.le_refl _)] at hx
        simp at hx
        exact .inr ⟨rfl, hx.symm⟩
    rcases key n x hx hxz with ⟨a1, a2⟩ | ⟨a1, rfl⟩ <;> rcases key m y hy hyz with ⟨b1, b2⟩ | ⟨b1, rfl⟩
    · exact q1.dist n m x y z a2 b2 hxz hyz
    · exact (hd z ((q2 z).2 (.inr ⟨n, x, by simp, a2, hxz⟩)) ((hG.2 z).2 hyz)).elim
    · exact (hd z ((q2 z).2 (.inr ⟨m, y, by simp, b2, hyz⟩)) ((hG.2 z).2 hxz)).elim
    · omega
  · rcases hx with hx | ⟨n, y, _, hy, hyx⟩
    · rcases g4 with g4 | g4
      · exact .inl ((q2 x).2 (.inl (by rw [← g4]; exact hx)))
      · rw [g4] at hx; cases hx; exact .inr (.inr (Nat.le_refl _))
    · rcases Nat.lt_or_ge n bs2.length with hn | hn
      · rw [List.getElem?_append_left hn] at hy
        exact .inl ((q2 x).2 (.inr ⟨n, y, by simp, hy, hyx⟩))
      · have hn' : n = bs2.length := by have := (List.getElem?_eq_some_iff.1 hy).1; simp at this; omega
        subst hn'
        rw [List.getElem?_append_right (Nat.le_refl _)] at hy
        simp at hy
        subst hy
        exact .inr (.inl ((hG.2 x).2 hyx))
/-- A nil slice of lines, of cells, among the objects. -/
theorem Objs.nilLines (h : Objs w0 w os) : Objs w0 w (.lines (.slice none 0 0) [] :: os) :=
  h.cons (w' := w) (Below.refl _ _) (G := fun _ => False) ⟨[], ⟨rfl, ⟨by simp [hdrs], .inl ⟨rfl, rfl⟩⟩, fun i b l _ hb => by simp at hb, fun i j b c g hb => by simp at hb⟩, fun b => ⟨fun h => h.elim, fun h => by rcases h with h | ⟨i, x, _, hx, _⟩; cases h; simp at hx⟩⟩ (fun _ hf => hf.elim)
theorem Objs.nilCells (h : Objs w0 w os) : Objs w0 w (.cells (.slice none 0 0) [] :: os) :=
  h.cons (w' := w) (Below.refl _ _) (G := fun _ => False) ⟨OwnC.nil w 0, fun b => ⟨fun h => h.elim, fun h => by cases h⟩⟩ (fun _ hf => hf.elim)
/-- What an own slice of cells reads as. -/
theorem Objs.cellsRd (h : Objs w0 w os) (hk : os[k]? = some (.cells v cs)) : ∃ A c, v = .slice A cs.length c ∧ RdC w A c cs := (h.own hk).form
theorem Objs.cellsRd' (h : Objs w0 w os) {A : Option Addr} {n c : Nat} (hk : os[k]? = some (.cells (.slice A n c) cs)) : n = cs.length ∧ RdC w A c cs := by
  obtain ⟨A', c', e, hr⟩ := (h.own hk).form
  simp only [Value.slice.injEq] at e
  obtain ⟨rfl, h1, rfl⟩ := e
  exact ⟨h1, hr⟩
end

section
variable {ops : Array Oper} {rest : List Oper} {o : Oper} {a : Act} {w : World} {Q : Exit → Act → World → Prop} {Φ : Value → World → Prop}
theorem exec_app {t : TypeId} {s x : Operand} (ho : o.op = .call { callee := .builtin .append, args := #[s, x], argTypes := #[t, t] }) {vs vx v' : Value} {w' : World} (hs : a.eval s = vs) (hx : a.eval x = vx) (hr : (Builtin.append_ #[t, t] o.type #[vs, vx]).run Tryd.prog w = .ok v' w') : (execOp a.eval o).run Tryd.prog w = .ok (.value v') w' := by
  simp [execOp, ho, resolve, invoke, builtin, hs, hx, hr, Result.andThen]
/-- append as a step: of the walk, of a region that draws. -/
theorem wpList_app {t : TypeId} (s x : Operand) (hw : Region.wanted o (yielded ops a.tmps) = true) (ho : o.op = .call { callee := .builtin .append, args := #[s, x], argTypes := #[t, t] }) {vs vx v' : Value} {w' : World} (hs : a.eval s = vs) (hx : a.eval x = vx) (hr : (Builtin.append_ #[t, t] o.type #[vs, vx]).run Tryd.prog w = .ok v' w')
    (h : wpList Tryd.prog ops Q rest (a.put o.dst v') w') : wpList Tryd.prog ops Q (o :: rest) a w := wpList_run hw (exec_app ho hs hx hr) h
theorem rs_run {v' : Value} {w' : World} (hw : Region.wanted o (yielded ops a.tmps) = true) (hr : (execOp a.eval o).run Tryd.prog w = .ok (.value v') w') (h : Φ v' w') : RStep Tryd.prog ops Q Φ (fun _ _ => True) o a w := rstep_value hw hr h trivial
theorem exec_bsl {t : TypeId} {n : Nat} {parts : Array (Nat × Operand)} {vs : Array (Nat × Value)} {v : Value} {w' : World} (ho : o.op = .buildSlice t n parts) (hv : (parts.map fun (i, x) => (i, a.eval x)) = vs) (hr : (Instr.buildSlice t n vs).run Tryd.prog w = .ok v w') : (execOp a.eval o).run Tryd.prog w = .ok (.value v) w' := by
  subst hv
  unfold execOp
  simp only [ho, Sem.run_bind, hr, Result.andThen_ok, Sem.run_pure]
/-- A slice built of one line. -/
theorem run_bsl (v : Value) (s : Bool) (w : World) : (Instr.buildSlice 33 1 #[(0, .agg #[v, .bool s])]).run Tryd.prog w = .ok (.slice (some ⟨w.heap.size, 0, none⟩) 1 1) (w.alloc (.cells #[v, .bool s] 71)) := by kernel_rfl
end
end Go.Proofs.YtjligfbaljnhnaaDoor
