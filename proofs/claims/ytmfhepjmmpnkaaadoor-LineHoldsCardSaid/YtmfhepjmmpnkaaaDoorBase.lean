/-
  Words of my own for all proofs of this seat: a world with more blocks behind it, regions that draw their order and whose calls only make memory, pens and cells as plain data.
-/
import Derived.WalkKit
import Derived.ProofKit
import Derived.BigQuiet
import Derived.Deep.QuietTactic
import Derived.Lib.Hide
namespace Go.Proofs.YtmfhepjmmpnkaaaDoor
open Go.RowKit

/-- The world with some more blocks behind its own, and some other count of draws. -/
def plus (w : World) (x : World) : World := { w with heap := w.heap ++ x.heap, drawn := x.drawn }

theorem size_plus (w : World) (x : World) : (plus w x).heap.size = w.heap.size + x.heap.size := by simp [plus]
theorem block_plus (w : World) (x : World) (k : Nat) (h : k < w.heap.size) : (plus w x).heap[k]? = w.heap[k]? := by
  simp only [plus]; rw [Array.getElem?_append_left h]
theorem cell_plus (w : World) (x : World) (b i : Nat) (h : b < w.heap.size) : (plus w x).cell? ⟨b, i, none⟩ = w.cell? ⟨b, i, none⟩ := by
  simp only [World.cell?, block_plus w x b h]
theorem frozen_plus (w : World) (x : World) (b i : Nat) (h : b < w.heap.size) : (plus w x).frozen? ⟨b, i, none⟩ = w.frozen? ⟨b, i, none⟩ := by
  simp only [World.frozen?, block_plus w x b h]
theorem below_plus (w : World) (x : World) : Below w.heap.size w (plus w x) :=
  ⟨rfl, rfl, rfl, by rw [size_plus]; omega, fun k hk => block_plus w x k hk⟩
theorem plus_of_below {w w' : World} (h : Below w.heap.size w w') : ∃ x, w' = plus w x := by
  refine ⟨{ w' with heap := w'.heap.extract w.heap.size w'.heap.size }, ?_⟩
  obtain ⟨h1, h2, h3, h4, h5⟩ := h
  cases w'
  cases w
  simp only at h1 h2 h3 h4 h5
  subst h1 h2 h3
  simp only [plus, World.mk.injEq, and_true]
  apply Array.ext_getElem?
  intro i
  rw [Array.getElem?_append]
  split
  · rename_i hi; exact h5 i hi
  · rename_i hi
    rw [Array.getElem?_extract]
    split
    · congr 1; omega
    · rw [Array.getElem?_eq_none]; omega

theorem quiet_below {P : Program} {f : FuncId} {args : Array Value} {w : World} {x : World} {v : Value}
    (h : Calls P f args (plus w x) fun e w' => e = .returned v ∧ Below (plus w x).heap.size (plus w x) w') :
    Calls P f args (plus w x) fun e w'' => e = .returned v ∧ ∃ y, w'' = plus w y :=
  h.mono fun _ _ ⟨he, hb⟩ => ⟨he, plus_of_below ((below_plus w x).trans (hb.mono (by rw [size_plus]; omega)))⟩

/-- A region that draws its order, whose own operations only read old memory and whose calls only make memory: ONE walk. -/
theorem wp_region_below {P : Program} {id : Nat} {Q : Exit → Act → World → Prop} {a : Act} {w : World} {l : List Oper} (hm : P.follows .mixedOrders = true) (hB : Region.lexB .any l.toArray = true)
    (h : wpQuiet P l.toArray (fun w' => ∃ x, w' = plus w x) (fun a' => ∀ w', Below w.heap.size w w' → Q .normal a' w') l a) : (Code.region id l.toArray true).wp P Q a w :=
  wp_region_quiet (C := fun w' => ∃ x, w' = plus w x) hm hB (plus_of_below ⟨rfl, rfl, rfl, Nat.le_refl _, fun _ _ => rfl⟩)
    (by
      have : (fun a' : Act => ∀ w', Below w.heap.size w w' → Q .normal a' w') = (fun a' : Act => ∀ w', (∃ x, w' = plus w x) → Q .normal a' w') := by
        funext a'
        apply propext
        constructor
        · rintro h w' ⟨x, rfl⟩; exact h _ (below_plus w x)
        · intro h w' hb; exact h _ (plus_of_below hb)
      rw [this] at h
      simpa using h)

attribute [go_sem] cell_plus frozen_plus

/-- A box that the walk made, behind a call that only makes memory. -/
theorem box_keep {w w2 : World} {c : Array Value} {t : TypeId} {B : Nat} (hb : Below B (w.alloc (.cells c t)) w2) (hB : w.heap.size < B) :
    (∀ i, w2.cell? ⟨w.heap.size, i, none⟩ = c[i]?) ∧ (∀ i, w2.frozen? ⟨w.heap.size, i, none⟩ = false) ∧ w.heap.size < w2.heap.size ∧ Below w.heap.size w w2 := by
  refine ⟨fun i => ?_, fun i => ?_, ?_, ?_⟩
  · rw [hb.cell (p := ⟨w.heap.size, i, none⟩) (by show w.heap.size < _; omega)]; simp
  · rw [hb.frozen (p := ⟨w.heap.size, i, none⟩) (by show w.heap.size < _; omega)]; simp
  · have := hb.size; simp at this; omega
  · exact ((Below.refl _ _).alloc (Nat.le_refl _) _).trans (hb.mono (by omega))
theorem cells_keep {w w2 : World} {g : Nat} {c : Array Value} (hb : Below w.heap.size w w2) (hz : g < w.heap.size) (hx : ∀ i, w.cell? ⟨g, i, none⟩ = c[i]?) :
    (∀ i, w2.cell? ⟨g, i, none⟩ = c[i]?) ∧ g < w2.heap.size :=
  ⟨fun i => (hb.cell (p := ⟨g, i, none⟩) hz).trans (hx i), by have := hb.size; omega⟩

structure Pen where
  fk : Int
  fi : Int
  fr : Int
  fg : Int
  fb : Int
  bk : Int
  bi : Int
  br : Int
  bg : Int
  bb : Int
  fl : Int
structure Cell where
  rune : Int
  m0 : Int
  m1 : Int
  m2 : Int
  width : Int
  pen : Pen

def Pen.ints (p : Pen) : List Int := [p.fk, p.fi, p.fr, p.fg, p.fb, p.bk, p.bi, p.br, p.bg, p.bb, p.fl]
theorem Pen.ints_inj {p q : Pen} (h : p.ints = q.ints) : p = q := by
  cases p; cases q; simpa [Pen.ints] using h
instance : DecidableEq Pen := fun p q => if h : p.ints = q.ints then isTrue (Pen.ints_inj h) else isFalse (fun e => h (by rw [e]))
def Cell.ints (c : Cell) : List Int := [c.rune, c.m0, c.m1, c.m2, c.width] ++ c.pen.ints
theorem Cell.ints_inj {c d : Cell} (h : c.ints = d.ints) : c = d := by
  obtain ⟨a0, a1, a2, a3, a4, ⟨b0, b1, b2, b3, b4, b5, b6, b7, b8, b9, b10⟩⟩ := c
  obtain ⟨c0, c1, c2, c3, c4, ⟨d0, d1, d2, d3, d4, d5, d6, d7, d8, d9, d10⟩⟩ := d
  simpa [Cell.ints, Pen.ints, and_assoc] using h
instance : DecidableEq Cell := fun p q => if h : p.ints = q.ints then isTrue (Cell.ints_inj h) else isFalse (fun e => h (by rw [e]))
def pen0 : Pen := ⟨0, 0, 0, 0, 0, 0, 0, 0, 0, 0, 0⟩
def cell0 : Cell := ⟨0, 0, 0, 0, 0, pen0⟩

def colorOk (k i r g b : Int) : Bool :=
  if k = 0 then decide (i = 0 ∧ r = 0 ∧ g = 0 ∧ b = 0) else if k = 1 then decide (r = 0 ∧ g = 0 ∧ b = 0) else if k = 2 then decide (i = 0) else false
def Pen.ok (p : Pen) : Bool := colorOk p.fk p.fi p.fr p.fg p.fb && colorOk p.bk p.bi p.br p.bg p.bb
end Go.Proofs.YtmfhepjmmpnkaaaDoor
