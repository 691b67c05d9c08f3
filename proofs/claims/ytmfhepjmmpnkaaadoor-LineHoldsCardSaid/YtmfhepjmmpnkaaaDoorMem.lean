/-
  Pens and cells in memory under short names: pv p, cv c are the numbers that lie there. What the walk needs to know of them.
-/
import Derived.Test.YtmfhepjmmpnkaaaDoorPen
import Derived.Test.YtmfhepjmmpnkaaaDoorEq
import Derived.Laws.Tables
import Derived.Deep.MidRow
import Derived.Deep.WholeRow
set_option linter.unusedSimpArgs false
set_option linter.unusedVariables false
namespace Go.Proofs.YtmfhepjmmpnkaaaDoor
open Go.RowKit

def pv (p : Pen) : Array Value := #[.int .i64 p.fk, .int .u8 p.fi, .int .u8 p.fr, .int .u8 p.fg, .int .u8 p.fb, .int .i64 p.bk, .int .u8 p.bi, .int .u8 p.br, .int .u8 p.bg, .int .u8 p.bb, .int .u8 p.fl]
def cv (c : Cell) : Array Value := #[.int .i32 c.rune, .int .i32 c.m0, .int .i32 c.m1, .int .i32 c.m2, .int .i64 c.width, .int .i64 c.pen.fk, .int .u8 c.pen.fi, .int .u8 c.pen.fr, .int .u8 c.pen.fg, .int .u8 c.pen.fb, .int .i64 c.pen.bk, .int .u8 c.pen.bi, .int .u8 c.pen.br, .int .u8 c.pen.bg, .int .u8 c.pen.bb, .int .u8 c.pen.fl]
@[go_sem] theorem pv_size (p : Pen) : (pv p).size = 11 := by simp [pv]
@[go_sem] theorem cv_size (c : Cell) : (cv c).size = 16 := by simp [cv]
theorem pv_one (p : Pen) : ∀ v ∈ (pv p).toList, v.oneCell' = true := by simp [pv, Value.oneCell']
theorem cv_one (c : Cell) : ∀ v ∈ (cv c).toList, v.oneCell' = true := by simp [cv, Value.oneCell']
theorem pv_all (p : Pen) : (pv p).all (·.oneCell') = true := by simp [pv, Value.oneCell']
theorem cv_all (c : Cell) : (cv c).all (·.oneCell') = true := by simp [cv, Value.oneCell']
@[simp high, go_sem high] theorem pv_get0 (p : Pen) : (pv p)[0]? = some (.int .i64 p.fk) := by simp [pv]
@[simp high, go_sem high] theorem pv_get1 (p : Pen) : (pv p)[1]? = some (.int .u8 p.fi) := by simp [pv]
@[simp high, go_sem high] theorem pv_get2 (p : Pen) : (pv p)[2]? = some (.int .u8 p.fr) := by simp [pv]
@[simp high, go_sem high] theorem pv_get3 (p : Pen) : (pv p)[3]? = some (.int .u8 p.fg) := by simp [pv]
@[simp high, go_sem high] theorem pv_get4 (p : Pen) : (pv p)[4]? = some (.int .u8 p.fb) := by simp [pv]
@[simp high, go_sem high] theorem pv_get5 (p : Pen) : (pv p)[5]? = some (.int .i64 p.bk) := by simp [pv]
@[simp high, go_sem high] theorem pv_get6 (p : Pen) : (pv p)[6]? = some (.int .u8 p.bi) := by simp [pv]
@[simp high, go_sem high] theorem pv_get7 (p : Pen) : (pv p)[7]? = some (.int .u8 p.br) := by simp [pv]
@[simp high, go_sem high] theorem pv_get8 (p : Pen) : (pv p)[8]? = some (.int .u8 p.bg) := by simp [pv]
@[simp high, go_sem high] theorem pv_get9 (p : Pen) : (pv p)[9]? = some (.int .u8 p.bb) := by simp [pv]
@[simp high, go_sem high] theorem pv_get10 (p : Pen) : (pv p)[10]? = some (.int .u8 p.fl) := by simp [pv]
@[simp high, go_sem high] theorem cv_get0 (c : Cell) : (cv c)[0]? = some (.int .i32 c.rune) := by simp [cv]
@[simp high, go_sem high] theorem cv_get1 (c : Cell) : (cv c)[1]? = some (.int .i32 c.m0) := by simp [cv]
@[simp high, go_sem high] theorem cv_get2 (c : Cell) : (cv c)[2]? = some (.int .i32 c.m1) := by simp [cv]
@[simp high, go_sem high] theorem cv_get3 (c : Cell) : (cv c)[3]? = some (.int .i32 c.m2) := by simp [cv]
@[simp high, go_sem high] theorem cv_get4 (c : Cell) : (cv c)[4]? = some (.int .i64 c.width) := by simp [cv]
@[simp high, go_sem high] theorem cv_get5 (c : Cell) : (cv c)[5]? = some (.int .i64 c.pen.fk) := by simp [cv]
@[simp high, go_sem high] theorem cv_get6 (c : Cell) : (cv c)[6]? = some (.int .u8 c.pen.fi) := by simp [cv]
@[simp high, go_sem high] theorem cv_get7 (c : Cell) : (cv c)[7]? = some (.int .u8 c.pen.fr) := by simp [cv]
@[simp high, go_sem high] theorem cv_get8 (c : Cell) : (cv c)[8]? = some (.int .u8 c.pen.fg) := by simp [cv]
@[simp high, go_sem high] theorem cv_get9 (c : Cell) : (cv c)[9]? = some (.int .u8 c.pen.fb) := by simp [cv]
@[simp high, go_sem high] theorem cv_get10 (c : Cell) : (cv c)[10]? = some (.int .i64 c.pen.bk) := by simp [cv]
@[simp high, go_sem high] theorem cv_get11 (c : Cell) : (cv c)[11]? = some (.int .u8 c.pen.bi) := by simp [cv]
@[simp high, go_sem high] theorem cv_get12 (c : Cell) : (cv c)[12]? = some (.int .u8 c.pen.br) := by simp [cv]
@[simp high, go_sem high] theorem cv_get13 (c : Cell) : (cv c)[13]? = some (.int .u8 c.pen.bg) := by simp [cv]
@[simp high, go_sem high] theorem cv_get14 (c : Cell) : (cv c)[14]? = some (.int .u8 c.pen.bb) := by simp [cv]
@[simp high, go_sem high] theorem cv_get15 (c : Cell) : (cv c)[15]? = some (.int .u8 c.pen.fl) := by simp [cv]
@[simp high, go_sem high] theorem cv_at0 (c : Cell) (h : 0 < (cv c).size) : (cv c)[0]'h = .int .i32 c.rune := by simp [cv]
@[simp high, go_sem high] theorem cv_at1 (c : Cell) (h : 1 < (cv c).size) : (cv c)[1]'h = .int .i32 c.m0 := by simp [cv]
@[simp high, go_sem high] theorem cv_at2 (c : Cell) (h : 2 < (cv c).size) : (cv c)[2]'h = .int .i32 c.m1 := by simp [cv]
@[simp high, go_sem high] theorem cv_at3 (c : Cell) (h : 3 < (cv c).size) : (cv c)[3]'h = .int .i32 c.m2 := by simp [cv]
@[simp high, go_sem high] theorem cv_at4 (c : Cell) (h : 4 < (cv c).size) : (cv c)[4]'h = .int .i64 c.width := by simp [cv]
@[simp high, go_sem high] theorem cv_at5 (c : Cell) (h : 5 < (cv c).size) : (cv c)[5]'h = .int .i64 c.pen.fk := by simp [cv]
@[simp high, go_sem high] theorem cv_at6 (c : Cell) (h : 6 < (cv c).size) : (cv c)[6]'h = .int .u8 c.pen.fi := by simp [cv]
@[simp high, go_sem high] theorem cv_at7 (c : Cell) (h : 7 < (cv c).size) : (cv c)[7]'h = .int .u8 c.pen.fr := by simp [cv]
@[simp high, go_sem high] theorem cv_at8 (c : Cell) (h : 8 < (cv c).size) : (cv c)[8]'h = .int .u8 c.pen.fg := by simp [cv]
@[simp high, go_sem high] theorem cv_at9 (c : Cell) (h : 9 < (cv c).size) : (cv c)[9]'h = .int .u8 c.pen.fb := by simp [cv]
@[simp high, go_sem high] theorem cv_at10 (c : Cell) (h : 10 < (cv c).size) : (cv c)[10]'h = .int .i64 c.pen.bk := by simp [cv]
@[simp high, go_sem high] theorem cv_at11 (c : Cell) (h : 11 < (cv c).size) : (cv c)[11]'h = .int .u8 c.pen.bi := by simp [cv]
@[simp high, go_sem high] theorem cv_at12 (c : Cell) (h : 12 < (cv c).size) : (cv c)[12]'h = .int .u8 c.pen.br := by simp [cv]
@[simp high, go_sem high] theorem cv_at13 (c : Cell) (h : 13 < (cv c).size) : (cv c)[13]'h = .int .u8 c.pen.bg := by simp [cv]
@[simp high, go_sem high] theorem cv_at14 (c : Cell) (h : 14 < (cv c).size) : (cv c)[14]'h = .int .u8 c.pen.bb := by simp [cv]
@[simp high, go_sem high] theorem cv_at15 (c : Cell) (h : 15 < (cv c).size) : (cv c)[15]'h = .int .u8 c.pen.fl := by simp [cv]
@[go_sem] theorem fill_cell (z d : Cell) : Array.foldl (fun cs x => cs.setIfInBounds x.snd x.fst) (cv z) (cv d).zipIdx 0 16 = cv d := by
  simp [cv, Array.zipIdx]
@[go_sem] theorem cv_set0 (c : Cell) (n : Int) : (cv c).setIfInBounds 0 (.int .i32 n) = cv { c with rune := n } := by simp [cv]
@[go_sem] theorem cv_set1 (c : Cell) (n : Int) : (cv c).setIfInBounds 1 (.int .i32 n) = cv { c with m0 := n } := by simp [cv]
@[go_sem] theorem cv_set2 (c : Cell) (n : Int) : (cv c).setIfInBounds 2 (.int .i32 n) = cv { c with m1 := n } := by simp [cv]
@[go_sem] theorem cv_set3 (c : Cell) (n : Int) : (cv c).setIfInBounds 3 (.int .i32 n) = cv { c with m2 := n } := by simp [cv]
@[go_sem] theorem cv_set4 (c : Cell) (n : Int) : (cv c).setIfInBounds 4 (.int .i64 n) = cv { c with width := n } := by simp [cv]
@[go_sem] theorem cv_set15 (c : Cell) (n : Int) : (cv c).setIfInBounds 15 (.int .u8 n) = cv { c with pen := { c.pen with fl := n } } := by simp [cv]
@[go_sem] theorem fold_pen (p : Pen) : (#[.int .i64 p.fk, .int .u8 p.fi, .int .u8 p.fr, .int .u8 p.fg, .int .u8 p.fb, .int .i64 p.bk, .int .u8 p.bi, .int .u8 p.br, .int .u8 p.bg, .int .u8 p.bb, .int .u8 p.fl] : Array Value) = pv p := by simp [pv]
@[go_sem] theorem fold_cell (c : Cell) : (#[.int .i32 c.rune, .int .i32 c.m0, .int .i32 c.m1, .int .i32 c.m2, .int .i64 c.width, .int .i64 c.pen.fk, .int .u8 c.pen.fi, .int .u8 c.pen.fr, .int .u8 c.pen.fg, .int .u8 c.pen.fb, .int .i64 c.pen.bk, .int .u8 c.pen.bi, .int .u8 c.pen.br, .int .u8 c.pen.bg, .int .u8 c.pen.bb, .int .u8 c.pen.fl] : Array Value) = cv c := by simp [cv]
def penf (n : Int) : Pen := ⟨0, 0, 0, 0, 0, 0, 0, 0, 0, 0, n⟩
@[go_sem] theorem penf_zero : penf 0 = pen0 := by simp [penf, pen0]
@[go_sem] theorem eta_pen (p : Pen) : Pen.mk p.fk p.fi p.fr p.fg p.fb p.bk p.bi p.br p.bg p.bb p.fl = p := by cases p; simp
@[go_sem] theorem eta_cell (c : Cell) : Cell.mk c.rune c.m0 c.m1 c.m2 c.width c.pen = c := by cases c; simp
@[go_sem] theorem fold_pen0 (n : Int) : (#[.int .i64 0, .int .u8 0, .int .u8 0, .int .u8 0, .int .u8 0, .int .i64 0, .int .u8 0, .int .u8 0, .int .u8 0, .int .u8 0, .int .u8 n] : Array Value) = pv (penf n) := by simp [pv, penf]
@[go_sem] theorem fold_cell0 (r a b c n m : Int) : (#[.int .i32 r, .int .i32 a, .int .i32 b, .int .i32 c, .int .i64 n, .int .i64 0, .int .u8 0, .int .u8 0, .int .u8 0, .int .u8 0, .int .i64 0, .int .u8 0, .int .u8 0, .int .u8 0, .int .u8 0, .int .u8 m] : Array Value) = cv ⟨r, a, b, c, n, penf m⟩ := by simp [cv, penf]
@[go_sem] theorem fold_cellp (r a b c n : Int) (p : Pen) : (#[.int .i32 r, .int .i32 a, .int .i32 b, .int .i32 c, .int .i64 n, .int .i64 p.fk, .int .u8 p.fi, .int .u8 p.fr, .int .u8 p.fg, .int .u8 p.fb, .int .i64 p.bk, .int .u8 p.bi, .int .u8 p.br, .int .u8 p.bg, .int .u8 p.bb, .int .u8 p.fl] : Array Value) = cv ⟨r, a, b, c, n, p⟩ := by simp [cv]

@[go_sem] theorem fill_pen (c : Cell) (p : Pen) : Array.foldl (fun cs x => cs.setIfInBounds (5 + x.snd) x.fst) (cv c) (pv p).zipIdx 0 11 = cv { c with pen := p } := by
  simp [cv, pv, Array.zipIdx]

theorem cell_size : (Tryd.prog.info? 30).map (·.size) = some 16 := by kernel_rfl
theorem pen_size : (Tryd.prog.info? 27).map (·.size) = some 11 := by kernel_rfl
/-- A whole cell, a whole pen read: not cell by cell. -/
def ldC (a : Addr) : Sem (Array Value) := loadCells a 16
def ldP (a : Addr) : Sem (Array Value) := loadCells a 11
@[go_sem ↓] theorem load_ldC (a : Addr) : loadCellsFrom a 0 16 #[] = ldC a := rfl
@[go_sem ↓] theorem load_ldP (a : Addr) : loadCellsFrom a 0 11 #[] = ldP a := rfl
theorem add_at (b o j : Nat) : (⟨b, o, none⟩ : Addr).add j = ⟨b, o + j, none⟩ := by unfold Addr.add; split <;> simp_all
theorem ldC_of {w : World} {b o : Nat} {c : Cell} (h : w.rangeAt b o (cv c).toList) : (ldC ⟨b, o, none⟩).run Tryd.prog w = .ok (cv c) w := by
  have := run_loadCells_list (P := Tryd.prog) w ⟨b, o, none⟩ (cv c).toList (fun j v hv => by rw [add_at]; exact h j v hv)
  simpa [ldC, cv_size] using this
theorem ldP_of {w : World} {b o : Nat} {p : Pen} (h : w.rangeAt b o (pv p).toList) : (ldP ⟨b, o, none⟩).run Tryd.prog w = .ok (pv p) w := by
  have := run_loadCells_list (P := Tryd.prog) w ⟨b, o, none⟩ (pv p).toList (fun j v hv => by rw [add_at]; exact h j v hv)
  simpa [ldP, pv_size] using this
theorem cv_pen {w : World} {b o : Nat} {c : Cell} (h : w.rangeAt b o (cv c).toList) : w.rangeAt b (o + 5) (pv c.pen).toList := fun j v hv => by
  have := h (5 + j) v (by rw [← hv]; show ((cv c).toList)[5 + j]? = _; rw [← List.getElem?_drop]; rfl)
  rw [show o + 5 + j = o + (5 + j) by omega]; exact this
theorem rangeAt_new (w : World) (cs : Array Value) (t : TypeId) : (w.alloc (.cells cs t)).rangeAt w.heap.size 0 cs.toList := fun j v hv => by
  rw [cell_of_row _ _ _ _ _ _ (heap_alloc_new w _)]; simpa using hv
theorem cv_inj {c d : Cell} (h : cv c = cv d) : c = d := by
  obtain ⟨a0, a1, a2, a3, a4, ⟨b0, b1, b2, b3, b4, b5, b6, b7, b8, b9, b10⟩⟩ := c
  obtain ⟨c0, c1, c2, c3, c4, ⟨d0, d1, d2, d3, d4, d5, d6, d7, d8, d9, d10⟩⟩ := d
  simpa [cv, and_assoc] using h
theorem pv_inj {c d : Pen} (h : pv c = pv d) : c = d := by
  obtain ⟨b0, b1, b2, b3, b4, b5, b6, b7, b8, b9, b10⟩ := c
  obtain ⟨d0, d1, d2, d3, d4, d5, d6, d7, d8, d9, d10⟩ := d
  simpa [pv, and_assoc] using h
theorem rangeAt_det {w : World} {b o : Nat} {xs ys : Array Value} (hl : xs.size = ys.size) (h : w.rangeAt b o xs.toList) (k : w.rangeAt b o ys.toList) : xs = ys := by
  apply Array.ext_getElem?
  intro i
  rcases Nat.lt_or_ge i xs.size with hi | hi
  · have h1 := h i xs[i] (by simp [hi])
    have h2 := k i (ys[i]'(by omega)) (by simp [show i < ys.size by omega])
    rw [h1] at h2
    simp [hi, show i < ys.size by omega, Option.some.inj h2]
  · rw [Array.getElem?_eq_none hi, Array.getElem?_eq_none (by omega)]
open Classical in
/-- The cell, the pen that lies at a place. -/
noncomputable def cellAt (w : World) (b o : Nat) : Option Cell := if h : ∃ c, w.rangeAt b o (cv c).toList then some h.choose else none
open Classical in
noncomputable def penAt (w : World) (b o : Nat) : Option Pen := if h : ∃ c, w.rangeAt b o (pv c).toList then some h.choose else none
theorem cellAt_of {w : World} {b o : Nat} {c : Cell} (h : w.rangeAt b o (cv c).toList) : cellAt w b o = some c := by
  have hx : ∃ c, w.rangeAt b o (cv c).toList := ⟨c, h⟩
  unfold cellAt
  rw [dif_pos hx]
  exact congrArg some (cv_inj (rangeAt_det (xs := cv hx.choose) (ys := cv c) rfl hx.choose_spec h))
theorem penAt_of {w : World} {b o : Nat} {c : Pen} (h : w.rangeAt b o (pv c).toList) : penAt w b o = some c := by
  have hx : ∃ c, w.rangeAt b o (pv c).toList := ⟨c, h⟩
  unfold penAt
  rw [dif_pos hx]
  exact congrArg some (pv_inj (rangeAt_det (xs := pv hx.choose) (ys := pv c) rfl hx.choose_spec h))
theorem range_of_cellAt {w : World} {b o : Nat} {c : Cell} (h : cellAt w b o = some c) : w.rangeAt b o (cv c).toList := by
  unfold cellAt at h
  split at h
  · rename_i hx; have := hx.choose_spec; rw [Option.some.inj h] at this; exact this
  · cases h
theorem range_of_penAt {w : World} {b o : Nat} {c : Pen} (h : penAt w b o = some c) : w.rangeAt b o (pv c).toList := by
  unfold penAt at h
  split at h
  · rename_i hx; have := hx.choose_spec; rw [Option.some.inj h] at this; exact this
  · cases h
theorem penAt_of_cell {w : World} {b o : Nat} {c : Cell} (h : cellAt w b o = some c) : penAt w b (o + 5) = some c.pen := penAt_of (cv_pen (range_of_cellAt h))
theorem rangeAt_same {w w' : World} {b o : Nat} {xs : List Value} (h : ∀ i, w'.cell? ⟨b, i, none⟩ = w.cell? ⟨b, i, none⟩) : w'.rangeAt b o xs ↔ w.rangeAt b o xs := by
  constructor <;> intro k j v hv
  · rw [← h]; exact k j v hv
  · rw [h]; exact k j v hv
theorem cellAt_same {w w' : World} {b : Nat} (h : ∀ i, w'.cell? ⟨b, i, none⟩ = w.cell? ⟨b, i, none⟩) (o : Nat) : cellAt w' b o = cellAt w b o := by
  cases h1 : cellAt w b o with
  | some c => exact cellAt_of ((rangeAt_same h).2 (range_of_cellAt h1))
  | none =>
    cases h2 : cellAt w' b o with
    | none => rfl
    | some c => rw [cellAt_of ((rangeAt_same h).1 (range_of_cellAt h2))] at h1; cases h1
theorem penAt_same {w w' : World} {b : Nat} (h : ∀ i, w'.cell? ⟨b, i, none⟩ = w.cell? ⟨b, i, none⟩) (o : Nat) : penAt w' b o = penAt w b o := by
  cases h1 : penAt w b o with
  | some c => exact penAt_of ((rangeAt_same h).2 (range_of_penAt h1))
  | none =>
    cases h2 : penAt w' b o with
    | none => rfl
    | some c => rw [penAt_of ((rangeAt_same h).1 (range_of_penAt h2))] at h1; cases h1
@[go_sem] theorem cellAt_alloc (w : World) (ob : Obj) (b o : Nat) (h : b < w.heap.size) : cellAt (w.alloc ob) b o = cellAt w b o := cellAt_same (fun i => World.cell?_alloc_lt w ob ⟨b, i, none⟩ h) o
@[go_sem] theorem penAt_alloc (w : World) (ob : Obj) (b o : Nat) (h : b < w.heap.size) : penAt (w.alloc ob) b o = penAt w b o := penAt_same (fun i => World.cell?_alloc_lt w ob ⟨b, i, none⟩ h) o
theorem cellAt_below {w w' : World} {B b : Nat} (hb : Below B w w') (h : b < B) (o : Nat) : cellAt w' b o = cellAt w b o := cellAt_same (fun i => hb.cell (p := ⟨b, i, none⟩) h) o
theorem penAt_below {w w' : World} {B b : Nat} (hb : Below B w w') (h : b < B) (o : Nat) : penAt w' b o = penAt w b o := penAt_same (fun i => hb.cell (p := ⟨b, i, none⟩) h) o
@[go_sem] theorem cellAt_plus (w x : World) (b o : Nat) (h : b < w.heap.size) : cellAt (plus w x) b o = cellAt w b o := cellAt_same (fun i => cell_plus w x b i h) o
@[go_sem] theorem penAt_plus (w x : World) (b o : Nat) (h : b < w.heap.size) : penAt (plus w x) b o = penAt w b o := penAt_same (fun i => cell_plus w x b i h) o
@[go_sem] theorem cellAt_drew (w : World) (b o : Nat) : cellAt w.drew b o = cellAt w b o := rfl
@[go_sem] theorem penAt_drew (w : World) (b o : Nat) : penAt w.drew b o = penAt w b o := rfl
@[go_sem] theorem cellAt_new {b : Nat} (w : World) (c : Cell) (t : TypeId) (hb : b = w.heap.size) : cellAt (w.alloc (.cells (cv c) t)) b 0 = some c := by
  subst hb; exact cellAt_of (rangeAt_new w _ t)
@[go_sem] theorem penAt_new {b : Nat} (w : World) (p : Pen) (t : TypeId) (hb : b = w.heap.size) : penAt (w.alloc (.cells (pv p) t)) b 0 = some p := by
  subst hb; exact penAt_of (rangeAt_new w _ t)
@[go_sem] theorem penAt_new5 {b : Nat} (w : World) (c : Cell) (t : TypeId) (hb : b = w.heap.size) : penAt (w.alloc (.cells (cv c) t)) b 5 = some c.pen :=
  penAt_of_cell (cellAt_new w c t hb)
@[go_sem] theorem run_ldC (w : World) (b o : Nat) (h : (cellAt w b o).isSome = true) : (ldC ⟨b, o, none⟩).run Tryd.prog w = .ok (cv ((cellAt w b o).getD cell0)) w := by
  obtain ⟨c, hc⟩ := Option.isSome_iff_exists.1 h
  rw [hc]; exact ldC_of (range_of_cellAt hc)
@[go_sem] theorem run_ldP (w : World) (b o : Nat) (h : (penAt w b o).isSome = true) : (ldP ⟨b, o, none⟩).run Tryd.prog w = .ok (pv ((penAt w b o).getD pen0)) w := by
  obtain ⟨c, hc⟩ := Option.isSome_iff_exists.1 h
  rw [hc]; exact ldP_of (range_of_penAt hc)
/-- A whole cell stored into the block that was made last. -/
@[go_sem] theorem store_cv_new {b : Nat} (w : World) (zs : Array Value) (c : Cell) (hb : b = w.heap.size) (hz : zs.size = 16) :
    (storeCells ⟨b, 0, none⟩ (cv c).toList 0).run Tryd.prog (w.alloc (.cells zs 30)) = .ok () (w.alloc (.cells (cv c) 30)) := by
  subst hb
  exact run_storeCells_new w 30 zs (cv c) (by rw [cell_size]; rfl) hz (cv_all c)
@[go_sem] theorem store_pv_new {b : Nat} (w : World) (zs : Array Value) (p : Pen) (hb : b = w.heap.size) (hz : zs.size = 11) :
    (storeCells ⟨b, 0, none⟩ (pv p).toList 0).run Tryd.prog (w.alloc (.cells zs 27)) = .ok () (w.alloc (.cells (pv p) 27)) := by
  subst hb
  exact run_storeCells_new w 27 zs (pv p) (by rw [pen_size]; rfl) hz (pv_all p)

@[go_sem high] theorem eqIn_cv (a b : Cell) (w : World) : (Op.equalIn 10000 30 (.agg (cv a)) (.agg (cv b))).run Tryd.prog w = .ok (decide (a = b)) w := by
  have h := eql_cell a.rune a.m0 a.m1 a.m2 a.width a.pen.fk a.pen.fi a.pen.fr a.pen.fg a.pen.fb a.pen.bk a.pen.bi a.pen.br a.pen.bg a.pen.bb a.pen.fl b.rune b.m0 b.m1 b.m2 b.width b.pen.fk b.pen.fi b.pen.fr b.pen.fg b.pen.fb b.pen.bk b.pen.bi b.pen.br b.pen.bg b.pen.bb b.pen.fl w
  rw [run_eql_struct] at h
  change ((Op.equalIn 10000 30 (.agg (cv a)) (.agg (cv b))).run Tryd.prog w).andThen _ = _ at h
  generalize (Op.equalIn 10000 30 (.agg (cv a)) (.agg (cv b))).run Tryd.prog w = r at h
  cases r with
  | ok x w1 => simp only [Result.andThen_ok, Result.ok.injEq, Value.bool.injEq] at h; obtain ⟨rfl, rfl⟩ := h; rfl
  | halt x w1 => cases h
@[go_sem high] theorem eqIn_pv (a b : Pen) (w : World) : (Op.equalIn 10000 27 (.agg (pv a)) (.agg (pv b))).run Tryd.prog w = .ok (decide (a = b)) w := by
  have h := eql_pen a.fk a.fi a.fr a.fg a.fb a.bk a.bi a.br a.bg a.bb a.fl b.fk b.fi b.fr b.fg b.fb b.bk b.bi b.br b.bg b.bb b.fl w
  rw [run_eql_struct] at h
  change ((Op.equalIn 10000 27 (.agg (pv a)) (.agg (pv b))).run Tryd.prog w).andThen _ = _ at h
  generalize (Op.equalIn 10000 27 (.agg (pv a)) (.agg (pv b))).run Tryd.prog w = r at h
  cases r with
  | ok x w1 => simp only [Result.andThen_ok, Result.ok.injEq, Value.bool.injEq] at h; obtain ⟨rfl, rfl⟩ := h; rfl
  | halt x w1 => cases h
attribute [go_sem high] eqIn_arr3_top

theorem idx3_0 (a0 a1 a2 : Int) (w : World) : (Instr.index 28 (.agg #[.int .i32 a0, .int .i32 a1, .int .i32 a2]) (.int .i64 0)).run Tryd.prog w = .ok (.int .i32 a0) w := by kernel_rfl
theorem idx3_1 (a0 a1 a2 : Int) (w : World) : (Instr.index 28 (.agg #[.int .i32 a0, .int .i32 a1, .int .i32 a2]) (.int .i64 1)).run Tryd.prog w = .ok (.int .i32 a1) w := by kernel_rfl
theorem idx3_2 (a0 a1 a2 : Int) (w : World) : (Instr.index 28 (.agg #[.int .i32 a0, .int .i32 a1, .int .i32 a2]) (.int .i64 2)).run Tryd.prog w = .ok (.int .i32 a2) w := by kernel_rfl
attribute [go_sem] idx3_0 idx3_1 idx3_2

/-- Block g is just these cells, none frozen. -/
def Blk (w : World) (g : Nat) (t : TypeId) (cs : Array Value) : Prop := w.heap[g]? = some (.cells cs t (0, 0))
section
variable {w w' : World} {g : Nat} {t : TypeId} {cs : Array Value}
theorem Blk.lt (h : Blk w g t cs) : g < w.heap.size := by
  rcases Nat.lt_or_ge g w.heap.size with hlt | hge
  · exact hlt
  · unfold Blk at h; rw [Array.getElem?_eq_none hge] at h; cases h
theorem Blk.cell (h : Blk w g t cs) (i : Nat) : w.cell? ⟨g, i, none⟩ = cs[i]? := cell_of_row w g i cs t (0, 0) h
theorem Blk.frozen (h : Blk w g t cs) (i : Nat) : w.frozen? ⟨g, i, none⟩ = false := by
  unfold Blk at h
  simp [World.frozen?, h]
theorem Blk.new (w : World) (t : TypeId) (cs : Array Value) : Blk (w.alloc (.cells cs t)) w.heap.size t cs := heap_alloc_new w _
theorem Blk.alloc (h : Blk w g t cs) (o : Obj) : Blk (w.alloc o) g t cs := (Below.heap_alloc w o g h.lt).trans h
theorem Blk.set_ (h : Blk w g t cs) (i : Nat) (u : Value) : Blk (w.setCell ⟨g, i, none⟩ u) g t (cs.setIfInBounds i u) := by
  unfold Blk at h ⊢
  simp [World.setCell, Array.getElem?_modify, h]
theorem Blk.far (h : Blk w g t cs) {p : Addr} (hp : g ≠ p.block) (u : Value) : Blk (w.setCell p u) g t cs := (Below.heap_setCell w p u g hp).trans h
theorem Blk.below {B : Nat} (h : Blk w g t cs) (hb : Below B w w') (hg : g < B) : Blk w' g t cs := (hb.block g hg).trans h
theorem Blk.bel (h : Blk w g t cs) (hb : Below w.heap.size w w') : Blk w' g t cs := h.below hb h.lt
theorem Blk.grown {row : Option Nat} (h : Blk w g t cs) (hb : w.grownBy w' row) (hg : some g ≠ row) : Blk w' g t cs := (hb.block g h.lt hg).trans h
theorem Blk.row (h : Blk w g t cs) (ds : Array Value) : Blk (w.setRow g ds) g t ds := setRow_heap w g cs ds t (0, 0) h
theorem Blk.rowFar (h : Blk w g t cs) {k : Nat} (hk : g ≠ k) (ds : Array Value) : Blk (w.setRow k ds) g t cs := (setRow_other w k g ds hk).trans h
theorem Blk.range (h : Blk w g t cs) : w.rangeAt g 0 cs.toList := fun j v hv => by rw [Nat.zero_add, h.cell]; simpa using hv
theorem Blk.cellAt {c : Cell} (h : Blk w g t (cv c)) : cellAt w g 0 = some c := cellAt_of h.range
theorem Blk.penAt {p : Pen} (h : Blk w g t (pv p)) : penAt w g 0 = some p := penAt_of h.range
theorem Blk.penAt5 {c : Cell} (h : Blk w g t (cv c)) : Proofs.YtmfhepjmmpnkaaaDoor.penAt w g 5 = some c.pen := penAt_of_cell h.cellAt
/-- What the walk asks of a box that holds a cell, or a pen. -/
theorem Blk.box {c : Cell} (h : Blk w g t (cv c)) : (∀ i, w.cell? ⟨g, i, none⟩ = (cv c)[i]?) ∧ (∀ i, w.frozen? ⟨g, i, none⟩ = false) ∧ g < w.heap.size ∧ Proofs.YtmfhepjmmpnkaaaDoor.cellAt w g 0 = some c ∧ Proofs.YtmfhepjmmpnkaaaDoor.penAt w g 5 = some c.pen := ⟨h.cell, h.frozen, h.lt, h.cellAt, h.penAt5⟩
theorem Blk.pbox {p : Pen} (h : Blk w g t (pv p)) : (∀ i, w.cell? ⟨g, i, none⟩ = (pv p)[i]?) ∧ (∀ i, w.frozen? ⟨g, i, none⟩ = false) ∧ g < w.heap.size ∧ Proofs.YtmfhepjmmpnkaaaDoor.penAt w g 0 = some p := ⟨h.cell, h.frozen, h.lt, h.penAt⟩
/-- What the walk asks of a block: its cells, that none is frozen, that it is there. -/
theorem Blk.facts (h : Blk w g t cs) : (∀ i, w.cell? ⟨g, i, none⟩ = cs[i]?) ∧ (∀ i, w.frozen? ⟨g, i, none⟩ = false) ∧ g < w.heap.size := ⟨h.cell, h.frozen, h.lt⟩
end
/-- A whole cell stored into a block that is known whole. -/
theorem store_cv_row (w : World) (g : Nat) (zs : Array Value) (c : Cell) (h : Blk w g 30 zs) (hz : zs.size = 16) :
    (storeCells ⟨g, 0, none⟩ (cv c).toList 0).run Tryd.prog w = .ok () (w.setRow g (cv c)) := by
  have := run_storeVar_row (P := Tryd.prog) w g 30 30 zs (cv c) h (by rw [cell_size]; rfl) (by rw [hz]; rfl) (cv_all c)
  cases hq : Tryd.prog.info? 30 with
  | none => have := cell_size; simp [hq] at this
  | some i =>
    have hs : 16 = i.size := by have := cell_size; simp [hq] at this; omega
    simpa [storeVar, sizeOf, typeInfo, hq, Value.cells, ← hs, cv_size] using this
theorem beq_no {a b : Int} (h : ¬ a = b) : (a == b) = false := by simpa using h
theorem bne_yes {a b : Int} (h : ¬ a = b) : (a != b) = true := by simpa using h
theorem beq_yes {a b : Int} (h : a = b) : (a == b) = true := by simpa using h
theorem bne_no {a b : Int} (h : a = b) : (a != b) = false := by simpa using h
end Go.Proofs.YtmfhepjmmpnkaaaDoor
