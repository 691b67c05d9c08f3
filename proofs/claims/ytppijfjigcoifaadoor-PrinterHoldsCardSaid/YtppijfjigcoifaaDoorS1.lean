/-
  Part 1 of the texts on which the proofs of this seat stand: each part says ahead of it what it shows.
-/
import Derived.WalkKit
import Derived.ProofKit
import Derived.BigQuiet
import Derived.Deep.QuietTactic
import Derived.Lib.Hide
import Derived.Orders
import Derived.RegionTactic
import Derived.Test.YtppijfjigcoifaaDoorChecked
import Derived.ChangeKeysEq
import Derived.Laws.Tables
import Derived.Deep.MidRow
import Derived.Deep.WholeRow
import Derived.Below
import Derived.Laws.OwnMore
import Derived.Laws.AppendOwnNone
import Derived.Deep.AppendLies
import Derived.Maps.AppendAt
import Derived.OwnWalk
import Derived.Laws.CopyRow
import Derived.WalkLawsBesides
import Derived.WalkSpells
import Derived.Laws.Cover4
import Derived.Lib.SliceRun
import Derived.WalkMore
import Derived.Laws.IdiomCopy
import Derived.Laws.MakeOwn
set_option linter.unusedSimpArgs false
set_option linter.unusedVariables false
namespace Go.Proofs.YtppijfjigcoifaaDoor
open Go.RowKit

def plus (w : World) (x : World) : World := { w with heap := w.heap ++ x.heap, drawn := x.drawn }

theorem size_plus (w : World) (x : World) : (plus w x).heap.size = w.heap.size + x.heap.size := by simp [plus]
theorem block_plus (w : World) (x : World) (k : Nat) (h : k < w.heap.size) : (plus w x).heap[k]? = w.heap[k]? := by
 simp only [plus]; rw [Array.getElem?_append_left h]
theorem cell_plus (w : World) (x : World) (b i : Nat) (h : b < w.heap.size) : (plus w x).cell? ⟨b, i, none⟩ = w.cell? ⟨b, i, none⟩ := by
 simp only [World.cell?, block_plus w x b h]
theorem frozen_plus (w : World) (x : World) (b i : Nat) (h : b < w.heap.size) : (plus w x).frozen? ⟨b, i, none⟩ = w.frozen? ⟨b, i, none⟩ := by
 simp only [World.frozen?, block_plus w x b h]
theorem below_plus (w : World) (x : World) : Below w.heap.size w (plus w x) :=
 ⟨rfl, rfl, rfl, by rw [size_plus]; omega, fun k hk => block_plus w x k hk⟩
theorem plus_of_below {w w' : World} (h : Below w.heap.size w w') : ∃ x, w' = plus w x := by
 refine ⟨{ w' with heap := w'.heap.extract w.heap.size w'.heap.size }, ?_⟩
 obtain ⟨h1, h2, h3, h4, h5⟩ := h
 cases w'
 cases w
 simp only at h1 h2 h3 h4 h5
 subst h1 h2 h3
 simp only [plus, World.mk.injEq, and_true]
 apply Array.ext_getElem?
 intro i
 rw [Array.getElem?_append]
 split
 ·rename_i hi; exact h5 i hi
 ·rename_i hi
  rw [Array.getElem?_extract]
  split
  ·congr 1; omega
  ·rw [Array.getElem?_eq_none]; omega

theorem quiet_below {P : Program} {f : FuncId} {args : Array Value} {w : World} {x : World} {v : Value}
  (h : Calls P f args (plus w x) fun e w' => e = .returned v ∧ Below (plus w x).heap.size (plus w x) w') :
  Calls P f args (plus w x) fun e w'' => e = .returned v ∧ ∃ y, w'' = plus w y :=
 h.mono fun _ _ ⟨he, hb⟩ => ⟨he, plus_of_below ((below_plus w x).trans (hb.mono (by rw [size_plus]; omega)))⟩

theorem wp_region_below {P : Program} {id : Nat} {Q : Exit → Act → World → Prop} {a : Act} {w : World} {l : List Oper} (hm : P.follows .mixedOrders = true) (hB : Region.lexB .any l.toArray = true)
  (h : wpQuiet P l.toArray (fun w' => ∃ x, w' = plus w x) (fun a' => ∀ w', Below w.heap.size w w' → Q .normal a' w') l a) : (Code.region id l.toArray true).wp P Q a w :=
 wp_region_quiet (C := fun w' => ∃ x, w' = plus w x) hm hB (plus_of_below ⟨rfl, rfl, rfl, Nat.le_refl _, fun _ _ => rfl⟩)
  (by
   have : (fun a' : Act => ∀ w', Below w.heap.size w w' → Q .normal a' w') = (fun a' : Act => ∀ w', (∃ x, w' = plus w x) → Q .normal a' w') := by
    funext a'
    apply propext
    constructor
    ·rintro h w' ⟨x, rfl⟩; exact h _ (below_plus w x)
    ·intro h w' hb; exact h _ (plus_of_below hb)
   rw [this] at h
   simpa using h)

attribute [go_sem] cell_plus frozen_plus

theorem box_keep {w w2 : World} {c : Array Value} {t : TypeId} {B : Nat} (hb : Below B (w.alloc (.cells c t)) w2) (hB : w.heap.size < B) :
  (∀ i, w2.cell? ⟨w.heap.size, i, none⟩ = c[i]?) ∧ (∀ i, w2.frozen? ⟨w.heap.size, i, none⟩ = false) ∧ w.heap.size < w2.heap.size ∧ Below w.heap.size w w2 := by
 refine ⟨fun i => ?_, fun i => ?_, ?_, ?_⟩
 ·rw [hb.cell (p := ⟨w.heap.size, i, none⟩) (by show w.heap.size < _; omega)]; simp
 ·rw [hb.frozen (p := ⟨w.heap.size, i, none⟩) (by show w.heap.size < _; omega)]; simp
 ·have := hb.size; simp at this; omega
 ·exact ((Below.refl _ _).alloc (Nat.le_refl _) _).trans (hb.mono (by omega))
structure Pen where
 fk : Int
 fi : Int
 fr : Int
 fg : Int
 fb : Int
 bk : Int
 bi : Int
 br : Int
 bg : Int
 bb : Int
 fl : Int
structure Cell where
 rune : Int
 m0 : Int
 m1 : Int
 m2 : Int
 width : Int
 pen : Pen

def Pen.ints (p : Pen) : List Int := [p.fk, p.fi, p.fr, p.fg, p.fb, p.bk, p.bi, p.br, p.bg, p.bb, p.fl]
theorem Pen.ints_inj {p q : Pen} (h : p.ints = q.ints) : p = q := by
 cases p; cases q; simpa [Pen.ints] using h
instance : DecidableEq Pen := fun p q => if h : p.ints = q.ints then isTrue (Pen.ints_inj h) else isFalse (fun e => h (by rw [e]))
def Cell.ints (c : Cell) : List Int := [c.rune, c.m0, c.m1, c.m2, c.width] ++ c.pen.ints
theorem Cell.ints_inj {c d : Cell} (h : c.ints = d.ints) : c = d := by
 obtain ⟨a0, a1, a2, a3, a4, ⟨b0, b1, b2, b3, b4, b5, b6, b7, b8, b9, b10⟩⟩ := c
 obtain ⟨c0, c1, c2, c3, c4, ⟨d0, d1, d2, d3, d4, d5, d6, d7, d8, d9, d10⟩⟩ := d
 simpa [Cell.ints, Pen.ints, and_assoc] using h
instance : DecidableEq Cell := fun p q => if h : p.ints = q.ints then isTrue (Cell.ints_inj h) else isFalse (fun e => h (by rw [e]))
def pen0 : Pen := ⟨0, 0, 0, 0, 0, 0, 0, 0, 0, 0, 0⟩
def cell0 : Cell := ⟨0, 0, 0, 0, 0, pen0⟩

def colorOk (k i r g b : Int) : Bool :=
 if k = 0 then decide (i = 0 ∧ r = 0 ∧ g = 0 ∧ b = 0) else if k = 1 then decide (r = 0 ∧ g = 0 ∧ b = 0) else if k = 2 then decide (i = 0) else false
def Pen.ok (p : Pen) : Bool := colorOk p.fk p.fi p.fr p.fg p.fb && colorOk p.bk p.bi p.br p.bg p.bb
end Go.Proofs.YtppijfjigcoifaaDoor

namespace Go.Proofs.YtppijfjigcoifaaDoor
open Go.RowKit

section
variable {P : Program} {ops : Array Oper} {Q : Exit → Act → World → Prop} {w0 : World} {a0 : Act}

def putL (vs : Nat → Value) : Nat → List Oper → Act → Act
 | _, [], a => a
 | k, o :: r, a => putL vs (k + 1) r (a.put o.dst (vs k))

theorem put_size (a : Act) (d : Option Tmp) (v : Value) : (a.put d v).tmps.size = a.tmps.size := by cases d <;> simp [Act.put]
theorem put_defers (a : Act) (d : Option Tmp) (v : Value) : (a.put d v).defers = a.defers := by cases d <;> simp [Act.put]
theorem put_same (a : Act) (d : Tmp) (v : Value) (h : d < a.tmps.size) : (a.put (some d) v).tmps.getD d undef = v := by simp [Act.put, h]
theorem put_other (a : Act) (d : Option Tmp) (t : Tmp) (v : Value) (h : d ≠ some t) : (a.put d v).tmps.getD t undef = a.tmps.getD t undef := by
 cases d with
 | none => rfl
 | some d =>
  have : d ≠ t := fun e => h (by rw [e])
  simp [Act.put, Array.getElem?_setIfInBounds, this]

theorem putL_size (vs : Nat → Value) : ∀ (l : List Oper) (k : Nat) (a : Act), (putL vs k l a).tmps.size = a.tmps.size
 | [], _, _ => rfl
 | o :: r, k, a => by rw [putL, putL_size vs r, put_size]
theorem putL_defers (vs : Nat → Value) : ∀ (l : List Oper) (k : Nat) (a : Act), (putL vs k l a).defers = a.defers
 | [], _, _ => rfl
 | o :: r, k, a => by rw [putL, putL_defers vs r, put_defers]
theorem putL_none (vs : Nat → Value) (t : Tmp) : ∀ (l : List Oper) (k : Nat) (a : Act), (∀ o ∈ l, o.dst ≠ some t) → (putL vs k l a).tmps.getD t undef = a.tmps.getD t undef
 | [], _, _, _ => rfl
 | o :: r, k, a, h => by rw [putL, putL_none vs t r _ _ (fun x hx => h x (by simp [hx])), put_other _ _ _ _ (h o (by simp))]
theorem putL_at (vs : Nat → Value) (t : Tmp) : ∀ (l : List Oper) (k : Nat) (a : Act) (j : Nat) (o : Oper), l[j]? = some o → o.dst = some t → (∀ i x, l[i]? = some x → x.dst = some t → i = j) → t < a.tmps.size →
  (putL vs k l a).tmps.getD t undef = vs (k + j)
 | [], _, _, j, o, h, _, _, _ => by simp at h
 | x :: r, k, a, j, o, h, hd, hu, ht => by
  rw [putL]
  cases j with
  | zero =>
   simp at h
   subst h
   rw [putL_none vs t r, hd, put_same _ _ _ ht]
   ·simp
   ·intro y hy e
    obtain ⟨i, hi⟩ := List.getElem?_of_mem hy
    have := hu (i + 1) y (by simpa using hi) e
    omega
  | succ j =>
   rw [putL_at vs t r (k + 1) _ j o (by simpa using h) hd (fun i y hy e => by have := hu (i + 1) y (by simpa using hy) e; omega) (by rw [put_size]; exact ht)]
   congr 1; omega

def growOk (ops : Array Oper) : Bool :=
 (List.range ops.size).all fun i => ((ops[i]?).map fun o => (o.after.all fun e => !Region.binds .any e || decide (e.on < i)) && ((List.range i).all fun j => o.dst.isNone || !decide (((ops[j]?).bind (·.dst)) = o.dst))).getD true
theorem growOk_edge (h : growOk ops = true) {i : Nat} {o : Oper} (ho : ops[i]? = some o) : ∀ e ∈ o.after, Region.binds .any e = true → e.on < i := by
 have hi : i < ops.size := (Array.getElem?_eq_some_iff.1 ho).1
 have := List.all_eq_true.1 h i (by simp [hi])
 simp only [ho, Option.map_some, Option.getD_some, Bool.and_eq_true] at this
 intro e he hb
 have := Array.all_eq_true_iff_forall_mem.1 this.1 e he
 simpa [hb] using this
theorem growOk_dst (h : growOk ops = true) {i j : Nat} {o x : Oper} {d : Tmp} (ho : ops[i]? = some o) (hx : ops[j]? = some x) (hd : o.dst = some d) (he : x.dst = some d) : i = j := by
 have key : ∀ {i j : Nat} {o x : Oper}, ops[i]? = some o → ops[j]? = some x → o.dst = some d → x.dst = some d → ¬ j < i := by
  intro i j o x ho hx hd he hlt
  have hi : i < ops.size := (Array.getElem?_eq_some_iff.1 ho).1
  have := List.all_eq_true.1 h i (by simp [hi])
  simp only [ho, Option.map_some, Option.getD_some, Bool.and_eq_true] at this
  have := List.all_eq_true.1 this.2 j (by simp [hlt])
  simp [hx, hd, he] at this
 have h1 := key ho hx hd he
 have h2 := key hx ho he hd
 omega

def GStep (P : Program) (ops : Array Oper) (Q : Exit → Act → World → Prop) (Φ : Value → World → Prop) (o : Oper) (a : Act) (w : World) : Prop :=
 if Region.wanted o (yielded ops a.tmps) = true then o.wp P a w (fun a2 w2 => ∃ v, a2 = a.put o.dst v ∧ Φ v w2 ∧ Below w.heap.size w w2) Q else Φ undef w
def GKnown (ops : Array Oper) (Φ : Nat → Value → World → Prop) (a0 : Act) (o : Oper) (a : Act) (w : World) : Prop :=
 (∀ e ∈ o.after, Region.binds .any e = true → ∀ x d, ops[e.on]? = some x → x.dst = some d → Φ e.on (a.tmps.getD d undef) w) ∧
 (∀ t, (∀ x ∈ ops, x.dst ≠ some t) → a.tmps.getD t undef = a0.tmps.getD t undef)

theorem ready_none (h : growOk ops = true) {listed : Array Bool} (hs : listed.size = ops.size) (hr : Region.ready .any ops listed = []) : ∀ i, i < ops.size → listed.getD i false = true := by
 intro i
 induction i using Nat.strongRecOn with
 | _ i ih =>
  intro hi
  cases hl : listed.getD i false with
  | true => rfl
  | false =>
   exfalso
   have ho : ops[i]? = some ops[i] := by simp [hi]
   have : i ∈ Region.ready .any ops listed := by
    rw [mem_ready]
    refine ⟨?_, _, ho, fun e he hbi => ?_⟩
    ·simp [hs, hi] at hl ⊢; exact hl
    ·have := growOk_edge h ho e he hbi
     exact ih e.on this (by omega)
   rw [hr] at this; cases this

def GSteps (P : Program) (ops : Array Oper) (Q : Exit → Act → World → Prop) (Φ : Nat → Value → World → Prop) (a0 : Act) (w0 : World) (k : Nat) (l : List Oper) : Prop :=
 ∀ (j : Nat) (o : Oper), l[j]? = some o → ∀ a w, Below w0.heap.size w0 w → GKnown ops Φ a0 o a w → GStep P ops Q (Φ (k + j)) o a w
theorem GSteps.nil {Φ : Nat → Value → World → Prop} {k : Nat} : GSteps P ops Q Φ a0 w0 k [] := fun j o h => by simp at h
theorem GSteps.cons {Φ : Nat → Value → World → Prop} {k : Nat} {o : Oper} {r : List Oper} (h : ∀ a w, Below w0.heap.size w0 w → GKnown ops Φ a0 o a w → GStep P ops Q (Φ k) o a w) (hr : GSteps P ops Q Φ a0 w0 (k + 1) r) : GSteps P ops Q Φ a0 w0 k (o :: r) := fun j x hx => by
 cases j with
 | zero => simp at hx; subst hx; exact h
 | succ j =>
  have := hr j x (by simpa using hx)
  rw [show k + 1 + j = k + (j + 1) by omega] at this
  exact this
theorem wanted_none {o : Oper} {y : Nat → Option Bool} (h : o.guard = none) : Region.wanted o y = true := by simp [Region.wanted, h]
theorem yielded_of {a : Act} {j : Nat} {o : Oper} {d : Tmp} {b : Bool} (ho : ops[j]? = some o) (hd : o.dst = some d) (hv : a.tmps.getD d undef = .bool b) : yielded ops a.tmps j = some b := by
 have : a.tmps[d]? = some (.bool b) := by
  cases h : a.tmps[d]? with
  | none => simp [h, undef] at hv
  | some v => simp [h] at hv; rw [hv]
 simp [yielded, ho, hd, this]
theorem wanted_yes {o : Oper} {a : Act} {j : Nat} {x : Oper} {d : Tmp} {b : Bool} (hg : o.guard = some (j, b)) (ho : ops[j]? = some x) (hd : x.dst = some d) (hv : a.tmps.getD d undef = .bool b) : Region.wanted o (yielded ops a.tmps) = true := by
 simp [Region.wanted, hg, yielded_of ho hd hv]
theorem wanted_no {o : Oper} {a : Act} {j : Nat} {x : Oper} {d : Tmp} {b c : Bool} (hg : o.guard = some (j, b)) (ho : ops[j]? = some x) (hd : x.dst = some d) (hv : a.tmps.getD d undef = .bool c) (hbc : c ≠ b) : Region.wanted o (yielded ops a.tmps) = false := by
 simp [Region.wanted, hg, yielded_of ho hd hv, hbc]
end
end Go.Proofs.YtppijfjigcoifaaDoor

namespace Go.Proofs.YtppijfjigcoifaaDoor
open Go.RowKit

structure Chg (S : Nat → Prop) (w w' : World) : Prop where
 os : w'.os = w.os
 tape : w'.tape = w.tape
 output : w'.output = w.output
 size : w.heap.size ≤ w'.heap.size
 block : ∀ k, k < w.heap.size → ¬ S k → w'.heap[k]? = w.heap[k]?
def noBlk : Nat → Prop := fun _ => False
section
variable {S T : Nat → Prop} {a b c w w' : World}
theorem Chg.refl (S : Nat → Prop) (w : World) : Chg S w w := ⟨rfl, rfl, rfl, Nat.le_refl _, fun _ _ _ => rfl⟩
theorem Chg.trans (h : Chg S a b) (k : Chg T b c) (hT : ∀ i, i < a.heap.size → T i → S i) : Chg S a c :=
 ⟨k.os.trans h.os, k.tape.trans h.tape, k.output.trans h.output, Nat.le_trans h.size k.size, fun i hi hn => (k.block i (Nat.lt_of_lt_of_le hi h.size) (fun ht => hn (hT i hi ht))).trans (h.block i hi hn)⟩
theorem Chg.mono (h : Chg S a b) (hT : ∀ i, i < a.heap.size → S i → T i) : Chg T a b := ⟨h.os, h.tape, h.output, h.size, fun k hk hn => h.block k hk (fun hs => hn (hT k hk hs))⟩
theorem Chg.of_below (h : Below w.heap.size w w') (S : Nat → Prop) : Chg S w w' := ⟨h.os, h.tape, h.output, h.size, fun k hk _ => h.block k hk⟩
theorem Chg.below (h : Chg S w w') {B : Nat} (hB : B ≤ w.heap.size) (hS : ∀ k, k < B → ¬ S k) : Below B w w' := ⟨h.os, h.tape, h.output, h.size, fun k hk => h.block k (by omega) (hS k hk)⟩
theorem Chg.of_grown {row : Option Nat} (h : w.grownBy w' row) (S : Nat → Prop) (hS : ∀ k, row = some k → S k) : Chg S w w' := ⟨h.os, h.tape, h.output, h.size, fun k hk hn => h.block k hk (fun e => hn (hS k e.symm))⟩
theorem Chg.then_below (h : Chg S a b) (k : Below b.heap.size b c) : Chg S a c := h.trans (Chg.of_below k noBlk) (fun _ _ hf => hf.elim)
theorem Chg.cell (h : Chg S w w') {p : Addr} (hp : p.block < w.heap.size) (hn : ¬ S p.block) : w'.cell? p = w.cell? p := World.cell?_of_block (w := w) (h.block p.block hp hn)
theorem Chg.alloc (h : Chg S a b) (o : Obj) : Chg S a (b.alloc o) := h.then_below ((Below.refl _ _).alloc (Nat.le_refl _) o)
theorem Chg.drew (h : Chg S a b) : Chg S a b.drew := h.then_below (Below.refl _ _).drew
end

section
variable {P : Program} {ops : Array Oper} {Q : Exit → Act → World → Prop} {a0 : Act}

def RStep (P : Program) (ops : Array Oper) (Q : Exit → Act → World → Prop) (Φ : Value → World → Prop) (R : World → World → Prop) (o : Oper) (a : Act) (w : World) : Prop :=
 if Region.wanted o (yielded ops a.tmps) = true then o.wp P a w (fun a2 w2 => ∃ v, a2 = a.put o.dst v ∧ Φ v w2 ∧ R w w2) Q else Φ undef w ∧ R w w
def RKnown (ops : Array Oper) (tk : Nat → Option Nat) (Φ : Nat → Value → World → Prop) (a0 : Act) (i : Nat) (o : Oper) (a : Act) (w : World) : Prop :=
 (∀ e ∈ o.after, Region.binds .any e = true → (tk e.on = none ∨ tk e.on = some i) → ∀ x, ops[e.on]? = some x → ∃ v, (∀ d, x.dst = some d → a.tmps.getD d undef = v) ∧ Φ e.on v w) ∧
 (∀ t, (∀ x ∈ ops, x.dst ≠ some t) → a.tmps.getD t undef = a0.tmps.getD t undef) ∧
 (∀ (j : Nat) (x : Oper), ops[j]? = some x → (∃ e ∈ x.after, Region.binds .any e = true ∧ e.on = i) → ∀ d, x.dst = some d → a.tmps.getD d undef = a0.tmps.getD d undef)
def RInv (ops : Array Oper) (tk : Nat → Option Nat) (Φ : Nat → Value → World → Prop) (J : World → Prop) (Ψ : Nat → World → Prop) (a0 : Act) (listed : Array Bool) (a : Act) (w : World) : Prop :=
 (J w ∧ ∀ i, i < ops.size → listed.getD i false = false → Ψ i w) ∧ a.defers = a0.defers ∧ a.tmps.size = a0.tmps.size ∧
 (∀ (i : Nat) (o : Oper), ops[i]? = some o → listed.getD i false = true → ∃ v, (∀ d, o.dst = some d → a.tmps.getD d undef = v) ∧ ((∀ k, tk i = some k → listed.getD k false = false) → Φ i v w)) ∧
 (∀ t, (∀ x ∈ ops, x.dst ≠ some t) → a.tmps.getD t undef = a0.tmps.getD t undef) ∧
 (∀ (i : Nat) (o : Oper), ops[i]? = some o → listed.getD i false = true → ∀ e ∈ o.after, Region.binds .any e = true → listed.getD e.on false = true) ∧
 (∀ (i : Nat) (o : Oper), ops[i]? = some o → listed.getD i false = false → ∀ d, o.dst = some d → a.tmps.getD d undef = a0.tmps.getD d undef)

open Classical in
theorem reg_any (tk : Nat → Option Nat) (htk : ∀ i k, tk i = some k → k < ops.size) (hg : growOk ops = true) (hsz : ∀ o : Oper, o ∈ ops → ∀ d, o.dst = some d → d < a0.tmps.size) (Φ : Nat → Value → World → Prop) (J : World → Prop) (Ψ : Nat → World → Prop) (R : Nat → World → World → Prop)
  (hΨ : ∀ i j w1 w2, i ≠ j → J w1 → Ψ i w1 → R j w1 w2 → Ψ i w2)
  (hJ : ∀ i w1 w2, J w1 → R i w1 w2 → J w2)
  (hstab : ∀ i j v w1 w2, i ≠ j → tk i ≠ some j → (∀ x, ops[i]? = some x → ∀ e ∈ x.after, Region.binds .any e = true → e.on ≠ j) → J w1 → Φ i v w1 → R j w1 w2 → Φ i v w2)
  (hstep : ∀ (i : Nat) (o : Oper), ops[i]? = some o → ∀ a w, J w → Ψ i w → RKnown ops tk Φ a0 i o a w → RStep P ops Q (Φ i) (R i) o a w)
  (hQ : ∀ (vs : Nat → Value) w, J w → (∀ (i : Nat), i < ops.size → tk i = none → Φ i (vs i) w) → Q .normal (putL vs 0 ops.toList a0) w) :
  ∀ (fuel : Nat) (listed : Array Bool) (a : Act) (w : World), listed.size = ops.size → listed.toList.count false ≤ fuel → RInv ops tk Φ J Ψ a0 listed a w → wpAny P .any ops Q fuel listed a w := by
 have hidx : ∀ {i : Nat} {o : Oper}, ops[i]? = some o → i < ops.size := fun h => (Array.getElem?_eq_some_iff.1 h).1
 have hend : ∀ (listed : Array Bool) (a : Act) (w : World), listed.size = ops.size → RInv ops tk Φ J Ψ a0 listed a w → Region.ready .any ops listed = [] → Q .normal a w := by
  intro listed a w hs ⟨⟨hb, _⟩, hd, hz, hk, ho, _, _⟩ hr
  have hall := ready_none hg hs hr
  have hvs : ∃ vs : Nat → Value, ∀ (i : Nat) (o : Oper), ops[i]? = some o → (∀ d, o.dst = some d → a.tmps.getD d undef = vs i) ∧ (tk i = none → Φ i (vs i) w) := by
   refine ⟨fun i => if h : ∃ v o, ops[i]? = some o ∧ (∀ d, o.dst = some d → a.tmps.getD d undef = v) ∧ (tk i = none → Φ i v w) then h.choose else undef, fun i o ho' => ?_⟩
   obtain ⟨v, hv1, hv2⟩ := hk i o ho' (hall i (hidx ho'))
   have hx : ∃ v o, ops[i]? = some o ∧ (∀ d, o.dst = some d → a.tmps.getD d undef = v) ∧ (tk i = none → Φ i v w) := ⟨v, o, ho', hv1, fun hn => hv2 (fun k hk => by rw [hn] at hk; cases hk)⟩
   simp only [dif_pos hx]
   obtain ⟨o2, h2, h3, h4⟩ := hx.choose_spec
   obtain rfl : o = o2 := Option.some.inj (ho'.symm.trans h2)
   exact ⟨h3, h4⟩
  obtain ⟨vs, hvs⟩ := hvs
  have := hQ vs w hb (fun (i : Nat) hi => (hvs i ops[i] (by simp [hi])).2)
  have heq : putL vs 0 ops.toList a0 = a := by
   have h1 := putL_size vs ops.toList 0 a0
   have h2 := putL_defers vs ops.toList 0 a0
   have h3 : ∀ t, (putL vs 0 ops.toList a0).tmps.getD t undef = a.tmps.getD t undef := by
    intro t
    by_cases ht : ∃ (j : Nat) (o : Oper), ops[j]? = some o ∧ o.dst = some t
    ·obtain ⟨j, o, hj, hdt⟩ := ht
     rw [putL_at _ t ops.toList 0 a0 j o (by simpa using hj) hdt (fun i x hx he => growOk_dst hg (by simpa using hx) hj he hdt) (hsz o (Array.mem_of_getElem? hj) t hdt)]
     rw [Nat.zero_add]
     exact ((hvs j o hj).1 t hdt).symm
    ·have hno : ∀ x ∈ ops, x.dst ≠ some t := fun x hx he => by
      obtain ⟨j, hj⟩ := Array.getElem?_of_mem hx
      exact ht ⟨j, x, hj, he⟩
     rw [putL_none _ t _ _ _ (fun x hx => hno x (by simpa using hx)), ho t hno]
   generalize putL vs 0 ops.toList a0 = b at h1 h2 h3
   obtain ⟨bt, bd⟩ := b
   obtain ⟨at_, ad⟩ := a
   simp only at h1 h2 h3 hd hz
   rw [Act.mk.injEq]
   refine ⟨?_, by rw [h2, hd]⟩
   apply Array.ext (by omega)
   intro i hi1 hi2
   have := h3 i
   simpa [hi1, hi2] using this
  rw [heq] at this
  exact this
 intro fuel
 induction fuel with
 | zero =>
  intro listed a w hs hc hi
  have hr : Region.ready .any ops listed = [] := by
   apply List.eq_nil_iff_forall_not_mem.2
   intro i hm
   rw [mem_ready] at hm
   obtain ⟨h1, o, h2, _⟩ := hm
   have hlt : i < listed.size := by rw [hs]; exact (Array.getElem?_eq_some_iff.1 h2).1
   have : listed.toList.count false = 0 := by omega
   rw [List.count_eq_zero] at this
   apply this
   simp [hlt] at h1
   rw [← h1]
   simp
  exact ⟨hr, hend listed a w hs hi hr⟩
 | succ fuel ih =>
  intro listed a w hs hc hi
  refine ⟨hend listed a w hs hi, fun i hm => ?_⟩
  have hm' := hm
  rw [mem_ready] at hm'
  obtain ⟨h1, o, h2, h3⟩ := hm'
  have hlt : i < listed.size := by rw [hs]; exact (Array.getElem?_eq_some_iff.1 h2).1
  have hli : listed[i] = false := by simpa [hlt] using h1
  obtain ⟨⟨hb, hpsi⟩, hd, hz, hk, hu, hcl, hun⟩ := hi
  have hkn : RKnown ops tk Φ a0 i o a w := ⟨fun e he hbi hce x hx => (by
   obtain ⟨v, hv1, hv2⟩ := hk e.on x hx (h3 e he hbi)
   refine ⟨v, hv1, hv2 (fun k hk => ?_)⟩
   rcases hce with hce | hce
   ·rw [hce] at hk; cases hk
   ·rw [hce] at hk; cases hk; simp [hlt, hli]), hu, fun j x hj ⟨e, he, hbi, hei⟩ d hd => hun j x hj (by
   cases hlj : listed.getD j false with
   | false => rfl
   | true => have := hcl j x hj hlj e he hbi; rw [hei] at this; simp [hlt, hli] at this) d hd⟩
  have hst := hstep i o h2 a w hb (hpsi i (by omega) (by simp [hlt, hli])) hkn
  have hnext : ∀ a2 w2, (∃ v, a2 = a.put o.dst v ∧ Φ i v w2 ∧ R i w w2) → wpAny P .any ops Q fuel (listed.setIfInBounds i true) a2 w2 := by
   rintro a2 w2 ⟨v, rfl, hv, hb2⟩
   refine ih _ _ _ (by simpa using hs) ?_ ⟨⟨hJ i w w2 hb hb2, fun j hj hl => ?_⟩, by rw [put_defers]; exact hd, by rw [put_size]; exact hz, ?_, ?_, ?_, ?_⟩
   ·rw [Array.toList_setIfInBounds, List.count_set (by simpa using hlt)]
    simp only [Array.getElem_toList, hli]
    have : 0 < listed.toList.count false := List.count_pos_iff.2 (by rw [← hli]; simp)
    simp
    simp at this hc
    omega
   ·by_cases hij : i = j
    ·subst hij
     simp [hlt] at hl
    ·rw [getD_set_ne _ hij] at hl
     exact hΨ j i w w2 (fun e => hij e.symm) hb (hpsi j hj hl) hb2
   ·intro j x hj hl
    by_cases hij : i = j
    ·subst hij
     rw [h2] at hj
     cases hj
     refine ⟨v, fun d hxd => ?_, fun _ => hv⟩
     rw [hxd, put_same _ _ _ (by rw [hz]; exact hsz _ (Array.mem_of_getElem? h2) d hxd)]
    ·rw [getD_set_ne _ hij] at hl
     obtain ⟨u, hu1, hu2⟩ := hk j x hj hl
     refine ⟨u, fun d hxd => ?_, fun hck => hstab j i u w w2 (fun e => hij e.symm) (fun hce => by have := hck i hce; simp [hlt] at this) (fun y hy e he hbi hei => by
      rw [hj] at hy
      cases hy
      have := hcl j x hj hl e he hbi
      rw [hei] at this
      simp [hlt, hli] at this) hb (hu2 (fun k hk => ?_)) hb2⟩
     ·rw [put_other _ _ _ _ (fun e => hij (growOk_dst hg h2 hj e hxd))]
      exact hu1 d hxd
     ·have := hck k hk
      by_cases hik : i = k
      ·subst hik; simp [hlt] at this
      ·rwa [getD_set_ne _ hik] at this
   ·intro t ht
    rw [put_other _ _ _ _ (ht o (Array.mem_of_getElem? h2))]
    exact hu t ht
   ·intro j x hj hl e he hbi
    have hmono : ∀ k, listed.getD k false = true → (listed.setIfInBounds i true).getD k false = true := fun k hk => by
     by_cases hik : i = k
     ·subst hik; simp [hlt]
     ·rw [getD_set_ne _ hik]; exact hk
    by_cases hij : i = j
    ·subst hij
     rw [h2] at hj
     cases hj
     exact hmono _ (h3 e he hbi)
    ·rw [getD_set_ne _ hij] at hl
     exact hmono _ (hcl j x hj hl e he hbi)
   ·intro j x hj hl d hxd
    have hij : i ≠ j := fun e => by subst e; simp [hlt] at hl
    rw [getD_set_ne _ hij] at hl
    rw [put_other _ _ _ _ (fun e => hij (growOk_dst hg h2 hj e hxd))]
    exact hun j x hj hl d hxd
  unfold wpOp
  simp only [h2]
  unfold RStep at hst
  by_cases hw : Region.wanted o (yielded ops a.tmps) = true
  ·rw [if_pos hw] at hst
   rw [if_pos hw]
   exact .inl (Oper.wp_mono hnext hst)
  ·rw [if_neg hw] at hst
   rw [if_neg hw]
   exact hnext _ _ ⟨undef, rfl, hst.1, hst.2⟩

def RSteps (P : Program) (ops : Array Oper) (tk : Nat → Option Nat) (Q : Exit → Act → World → Prop) (Φ : Nat → Value → World → Prop) (J : World → Prop) (Ψ : Nat → World → Prop) (R : Nat → World → World → Prop) (a0 : Act) (k : Nat) (l : List Oper) : Prop :=
 ∀ (j : Nat) (o : Oper), l[j]? = some o → ∀ a w, J w → Ψ (k + j) w → RKnown ops tk Φ a0 (k + j) o a w → RStep P ops Q (Φ (k + j)) (R (k + j)) o a w
section
variable {tk : Nat → Option Nat} {Φ : Nat → Value → World → Prop} {J : World → Prop} {Ψ : Nat → World → Prop} {R : Nat → World → World → Prop} {k : Nat} {o : Oper} {r : List Oper}
theorem RSteps.nil : RSteps P ops tk Q Φ J Ψ R a0 k [] := fun j o h => by simp at h
theorem RSteps.cons (h : ∀ a w, J w → Ψ k w → RKnown ops tk Φ a0 k o a w → RStep P ops Q (Φ k) (R k) o a w) (hr : RSteps P ops tk Q Φ J Ψ R a0 (k + 1) r) : RSteps P ops tk Q Φ J Ψ R a0 k (o :: r) := fun j x hx => by
 cases j with
 | zero => simp at hx; subst hx; exact h
 | succ j =>
  have := hr j x (by simpa using hx)
  rw [show k + 1 + j = k + (j + 1) by omega] at this
  exact this
theorem wp_region_regs {id : Nat} {l : List Oper} {w0 : World} (htk : ∀ i k, tk i = some k → k < l.length) (hm : P.follows .mixedOrders = true) (hg : growOk l.toArray = true) (hsz : l.toArray.all (fun o => o.dst.all (fun d => decide (d < a0.tmps.size))) = true)
  (hJ0 : J w0.drew) (hΨ0 : ∀ i, i < l.length → Ψ i w0.drew) (hΨ : ∀ i j w1 w2, i ≠ j → J w1 → Ψ i w1 → R j w1 w2 → Ψ i w2) (hJ : ∀ i w1 w2, J w1 → R i w1 w2 → J w2)
  (hstab : ∀ i j v w1 w2, i ≠ j → tk i ≠ some j → (∀ x, l[i]? = some x → ∀ e ∈ x.after, Region.binds .any e = true → e.on ≠ j) → J w1 → Φ i v w1 → R j w1 w2 → Φ i v w2) (hstep : RSteps P l.toArray tk Q Φ J Ψ R a0 0 l)
  (hQ : ∀ (vs : Nat → Value) w, J w → (∀ (i : Nat), i < l.length → tk i = none → Φ i (vs i) w) → Q .normal (putL vs 0 l a0) w) : (Code.region id l.toArray true).wp P Q a0 w0 := by
 refine wp_region_any hm (reg_any tk (fun i k h => by simpa using htk i k h) hg (fun o ho d hd => ?_) Φ J Ψ R hΨ hJ (fun i j v w1 w2 h1 h2 h3 => hstab i j v w1 w2 h1 h2 (fun x hx => h3 x (by simpa using hx))) (fun i o ho a w hb hp hk => ?_) (fun vs w hb h => hQ vs w hb (fun i hi => h i (by simpa using hi))) l.toArray.size _ a0 _ (by simp) (by simp) ⟨⟨hJ0, fun i hi _ => hΨ0 i (by simpa using hi)⟩, rfl, rfl, fun i o _ hl => ?_, fun _ _ => rfl, fun i o _ hl => ?_, fun _ _ _ _ _ _ => rfl⟩)
 ·have := Array.all_eq_true_iff_forall_mem.1 hsz o ho
  simpa [hd] using this
 ·have := hstep i o (by simpa using ho) a w hb (by rw [Nat.zero_add]; exact hp) (by rw [Nat.zero_add]; exact hk)
  rwa [Nat.zero_add] at this
 ·simp [Array.getElem?_replicate] at hl
  split at hl <;> simp at hl
 ·simp [Array.getElem?_replicate] at hl
  split at hl <;> simp at hl
end
theorem rk_same {tk : Nat → Option Nat} {Φ : Nat → Value → World → Prop} {i : Nat} {o : Oper} {a : Act} {w : World} (hk : RKnown ops tk Φ a0 i o a w) (t : Tmp) (h : ops.all (fun x => !decide (x.dst = some t)) = true) : a.tmps.getD t undef = a0.tmps.getD t undef :=
 hk.2.1 t fun x hx e => by have := Array.all_eq_true_iff_forall_mem.1 h x hx; simp [e] at this
theorem rk_at {tk : Nat → Option Nat} {Φ : Nat → Value → World → Prop} {i : Nat} {o : Oper} {a : Act} {w : World} (hk : RKnown ops tk Φ a0 i o a w) {e : Edge} (he : e ∈ o.after) (hb : Region.binds .any e = true) {x : Oper} (hx : ops[e.on]? = some x) {d : Tmp} (hd : x.dst = some d) (hce : tk e.on = none ∨ tk e.on = some i := by first | exact .inl rfl | exact .inr rfl) : Φ e.on (a.tmps.getD d undef) w := by
 obtain ⟨v, h1, h2⟩ := hk.1 e he hb hce x hx
 rw [h1 d hd]; exact h2
theorem rk_old {tk : Nat → Option Nat} {Φ : Nat → Value → World → Prop} {i : Nat} {o : Oper} {a : Act} {w : World} (hk : RKnown ops tk Φ a0 i o a w) (j : Nat) {x : Oper} (hx : ops[j]? = some x) {e : Edge} (he : e ∈ x.after) (hb : Region.binds .any e = true) (hi : e.on = i) {d : Tmp} (hd : x.dst = some d) : a.tmps.getD d undef = a0.tmps.getD d undef :=
 hk.2.2 j x hx ⟨e, he, hb, hi⟩ d hd
section
variable {Φ : Value → World → Prop} {R : World → World → Prop} {o : Oper} {a : Act} {w w2 : World} {v : Value}
theorem rstep_value (hw : Region.wanted o (yielded ops a.tmps) = true) (hr : (execOp a.eval o).run P w = .ok (.value v) w2) (hv : Φ v w2) (hb : R w w2) : RStep P ops Q Φ R o a w := by
 unfold RStep
 rw [if_pos hw]
 unfold Oper.wp
 rw [hr]
 exact ⟨v, rfl, hv, hb⟩
theorem rstep_call {f : FuncId} {args : Array Value} (hw : Region.wanted o (yielded ops a.tmps) = true) (hr : (execOp a.eval o).run P w = .ok (.enter f args) w)
  (hc : Calls P f args w fun e w2 => ∃ v, e = .returned v ∧ Φ v w2 ∧ R w w2) : RStep P ops Q Φ R o a w := by
 unfold RStep
 rw [if_pos hw]
 unfold Oper.wp
 rw [hr]
 exact hc.mono fun e w2 ⟨v, he, hv, hb⟩ => by subst he; exact ⟨v, rfl, hv, hb⟩
end
end
end Go.Proofs.YtppijfjigcoifaaDoor

namespace Go.Proofs.YtppijfjigcoifaaDoor
open Go.RowKit

def cmpOf (lo hi r : Int) : Int := if hi < r then -1 else if r < lo then 1 else 0

set_option maxHeartbeats 400000 in
theorem widthCmp_any (lo hi r : Int) (w : World) : Calls Tryd.prog 94 #[.agg #[.int .i32 lo, .int .i32 hi], .int .i32 r] w fun e w' => e = .returned (.int .i64 (cmpOf lo hi r)) ∧ Below w.heap.size w w' := by
 by_cases h1 : hi < r
 ·go_enter Tryd.func94, Tryd.ntmps94
  go_wp2
  go_ret
  exact ⟨by simp [cmpOf, h1], (Below.refl _ _).alloc (Nat.le_refl _) _⟩
 ·by_cases h2 : r < lo
  ·go_enter Tryd.func94, Tryd.ntmps94
   go_wp2
   go_ret
   exact ⟨by simp [cmpOf, h1, h2], (Below.refl _ _).alloc (Nat.le_refl _) _⟩
  ·go_enter Tryd.func94, Tryd.ntmps94
   go_wp2
   go_ret
   exact ⟨by simp [cmpOf, Int.not_lt.2 h1, Int.not_lt.2 h2], (Below.refl _ _).alloc (Nat.le_refl _) _⟩

def Pairs (w : World) (b n : Nat) (lo hi : Nat → Int) : Prop :=
 b < w.heap.size ∧ ∀ k, k < n → w.cell? ⟨b, k * 2, none⟩ = some (.int .i32 (lo k)) ∧ w.cell? ⟨b, k * 2 + 1, none⟩ = some (.int .i32 (hi k))
theorem Pairs.below {w w' : World} {b n B : Nat} {lo hi : Nat → Int} (h : Pairs w b n lo hi) (hb : Below B w w') (hB : b < B) : Pairs w' b n lo hi :=
 ⟨by have := h.1; have := hb.size; omega, fun k hk => ⟨(hb.cell (p := ⟨b, _, none⟩) hB).trans (h.2 k hk).1, (hb.cell (p := ⟨b, _, none⟩) hB).trans (h.2 k hk).2⟩⟩

def Found (n : Nat) (lo hi : Nat → Int) (r : Int) (e : Ending) : Prop :=
 ∃ (i : Nat) (is : Bool), e = .returned (.tuple #[.int .i64 i, .bool is]) ∧ (is = true ↔ ∃ k, k < n ∧ lo k ≤ r ∧ r ≤ hi k)

theorem widthCmp_lt (lo : Int) {hi r : Int} (h : hi < r) (w : World) : Calls Tryd.prog 94 #[.agg #[.int .i32 lo, .int .i32 hi], .int .i32 r] w fun e w' => e = .returned (.int .i64 (-1)) ∧ Below w.heap.size w w' :=
 (show cmpOf lo hi r = -1 by simp [cmpOf, h]) ▸ widthCmp_any lo hi r w
theorem widthCmp_gt {lo hi r : Int} (h : r ≤ hi) (h2 : r < lo) (w : World) : Calls Tryd.prog 94 #[.agg #[.int .i32 lo, .int .i32 hi], .int .i32 r] w fun e w' => e = .returned (.int .i64 1) ∧ Below w.heap.size w w' :=
 (show cmpOf lo hi r = 1 by simp [cmpOf, Int.not_lt.2 h, h2]) ▸ widthCmp_any lo hi r w
theorem widthCmp_eq {lo hi r : Int} (h : r ≤ hi) (h2 : lo ≤ r) (w : World) : Calls Tryd.prog 94 #[.agg #[.int .i32 lo, .int .i32 hi], .int .i32 r] w fun e w' => e = .returned (.int .i64 0) ∧ Below w.heap.size w w' :=
 (show cmpOf lo hi r = 0 by simp [cmpOf, Int.not_lt.2 h, Int.not_lt.2 h2]) ▸ widthCmp_any lo hi r w
theorem widthCmp_ge (lo : Int) {hi r : Int} (h : r ≤ hi) (w : World) : Calls Tryd.prog 94 #[.agg #[.int .i32 lo, .int .i32 hi], .int .i32 r] w fun e w' => ∃ x : Int, 0 ≤ x ∧ e = .returned (.int .i64 x) ∧ Below w.heap.size w w' :=
 (widthCmp_any lo hi r w).mono fun e w' ⟨he, hb⟩ => ⟨_, by unfold cmpOf; rw [if_neg (Int.not_lt.2 h)]; split <;> omega, he, hb⟩

section
variable {n : Nat} {lo hi : Nat → Int} {r : Int}
theorem below_mid {m k : Nat} (hs : ∀ k, k < n → lo k ≤ hi k) (hs2 : ∀ k m, k < m → m < n → hi k < lo m) (hm : m < n) (hk : k < m + 1) (h : hi m < r) : hi k < r := by
 rcases Nat.lt_or_ge k m with h1 | h1
 ·have := hs2 k m h1 hm; have := hs m hm; omega
 ·obtain rfl : k = m := by omega
  exact h
theorem above_mid {m k : Nat} (hs : ∀ k, k < n → lo k ≤ hi k) (hs2 : ∀ k m, k < m → m < n → hi k < lo m) (hm : m ≤ k) (hk : k < n) (h : r ≤ hi m) : r ≤ hi k := by
 rcases Nat.lt_or_ge m k with h1 | h1
 ·have := hs2 m k h1 hk; have := hs k hk; omega
 ·obtain rfl : k = m := by omega
  exact h
theorem not_found {a k : Nat} (hl : ∀ k, k < a → hi k < r) (hs2 : ∀ k m, k < m → m < n → hi k < lo m) (h3 : r < lo a) (hr : r ≤ hi a) (hk : k < n) (h4 : lo k ≤ r) : hi k < r := by
 rcases Nat.lt_trichotomy k a with h1 | h1 | h1
 ·exact hl k h1
 ·subst h1; omega
 ·have := hs2 a k h1 hk; omega
end

set_option maxHeartbeats 1000000 in
theorem search_any (b n c : Nat) (lo hi : Nat → Int) (r : Int) (w : World) (hp : Pairs w b n lo hi) (hn : n ≤ 100) (hs : ∀ k, k < n → lo k ≤ hi k) (hs2 : ∀ k m, k < m → m < n → hi k < lo m) :
  Calls Tryd.prog 93 #[.slice (some ⟨b, 0, none⟩) n c, .int .i32 r, .func (.func 94) #[] #[]] w fun e w' => Found n lo hi r e ∧ Below w.heap.size w w' := by
 have HP := Lib.hid hp
 have HS := Lib.hid hs
 have HS2 := Lib.hid hs2
 clear hp hs hs2
 go_enter Tryd.func93, Tryd.ntmps93
 go_wp2_with fail
 go_loopw [9, 10, 11] (fun i j h wr => ∃ a d : Nat, a ≤ d ∧ d ≤ n ∧ i = .int .i64 a ∧ j = .int .i64 d ∧ (∀ k, k < a → hi k < r) ∧ (∀ k, d ≤ k → k < n → r ≤ hi k) ∧ Below w.heap.size w wr) (fun i j _ _ => (intOf j - intOf i).toNat)
 case atStart => exact ⟨0, n, by omega, by omega, rfl, rfl, fun k hk => by omega, fun k h1 h2 => by omega, Below.refl _ _⟩
 case round =>
  obtain ⟨a, d, had, hdn, rfl, rfl, hlt, hge, hb⟩ := hrel
  have HL := Lib.hid hlt
  have HG := Lib.hid hge
  have HB := Lib.hid hb
  clear hlt hge hb
  by_cases hc : a < d
  ·obtain ⟨c0, c1⟩ := (HP.out.below HB.out HP.out.1).2 ((a + d) / 2) (by omega)
   by_cases h1 : hi ((a + d) / 2) < r
   ·have HC := Lib.hid (widthCmp_lt (lo ((a + d) / 2)) h1)
    go_wp2_with fail
    refine (HC.out _).mono ?_
    rintro e w2 ⟨rfl, hb2⟩
    go_wp2_with fail
    go_roundw
    case rel => exact ⟨(a + d) / 2 + 1, d, by omega, by omega, by go_num, rfl, fun k hk => below_mid HS.out HS2.out (by omega) hk h1, HG.out, HB.out.trans (hb2.mono HB.out.size)⟩
    case measure => simp [intOf]; omega
   ·have HC := Lib.hid (widthCmp_ge (lo ((a + d) / 2)) (Int.not_lt.1 h1))
    go_wp2_with fail
    refine (HC.out _).mono ?_
    rintro e w2 ⟨x, hx0, rfl, hb2⟩
    go_wp2_with fail
    go_roundw
    case rel => exact ⟨a, (a + d) / 2, by omega, by omega, rfl, by go_num, HL.out, fun k hk hk2 => above_mid HS.out HS2.out hk hk2 (by omega), HB.out.trans (hb2.mono HB.out.size)⟩
    case measure => simp [intOf]; omega
  ·obtain rfl : a = d := by omega
   by_cases h2 : a < n
   ·obtain ⟨c0, c1⟩ := (HP.out.below HB.out HP.out.1).2 a h2
    have hr := HG.out a (Nat.le_refl _) h2
    by_cases h3 : r < lo a
    ·have HC := Lib.hid (widthCmp_gt hr h3)
     go_wp2_with fail
     refine (HC.out _).mono ?_
     rintro e w2 ⟨rfl, hb2⟩
     go_wp2_with fail
     go_ret2
     refine ⟨⟨a, false, rfl, by simp; exact fun k hk h4 => not_found HL.out HS2.out h3 hr hk h4⟩, HB.out.trans (hb2.mono HB.out.size)⟩
    ·have HC := Lib.hid (widthCmp_eq hr (Int.not_lt.1 h3))
     go_wp2_with fail
     refine (HC.out _).mono ?_
     rintro e w2 ⟨rfl, hb2⟩
     go_wp2_with fail
     go_ret2
     refine ⟨⟨a, true, rfl, by simp; exact ⟨a, h2, by omega, hr⟩⟩, HB.out.trans (hb2.mono HB.out.size)⟩
   ·go_wp2_with fail
    go_ret2
    refine ⟨⟨a, false, rfl, by simp; exact fun k hk h4 => HL.out k (by omega)⟩, HB.out⟩

def marksTab : List (Int × Int) := [(768, 879), (1155, 1161), (1425, 1469), (1552, 1562), (1611, 1631), (1750, 1756), (3633, 3633), (3636, 3642), (3655, 3662), (6832, 6911), (7616, 7679), (8203, 8207), (8400, 8447), (12330, 12335), (12441, 12442), (65024, 65039), (65056, 65071), (917760, 917999)]
def wideTab : List (Int × Int) := [(4352, 4447), (9001, 9002), (11904, 12329), (12336, 12350), (12353, 12440), (12443, 13311), (13312, 19903), (19968, 42191), (43360, 43391), (44032, 55203), (63744, 64255), (65072, 65135), (65280, 65376), (65504, 65510), (127744, 128591), (128640, 128767), (129280, 129535), (131072, 196605), (196608, 262141)]
def loOf (tab : List (Int × Int)) (k : Nat) : Int := (tab.getD k (0, 0)).1
def hiOf (tab : List (Int × Int)) (k : Nat) : Int := (tab.getD k (0, 0)).2
def inTab (tab : List (Int × Int)) (r : Int) : Bool := tab.any fun x => decide (x.1 ≤ r) && decide (r ≤ x.2)
theorem inTab_iff (tab : List (Int × Int)) (r : Int) : inTab tab r = true ↔ ∃ k, k < tab.length ∧ loOf tab k ≤ r ∧ r ≤ hiOf tab k := by
 simp only [inTab, List.any_eq_true, Bool.and_eq_true, decide_eq_true_eq, loOf, hiOf]
 constructor
 ·rintro ⟨x, hx, h1, h2⟩
  obtain ⟨k, hk, rfl⟩ := List.getElem_of_mem hx
  exact ⟨k, hk, by simpa [List.getD_eq_getElem?_getD, hk] using h1, by simpa [List.getD_eq_getElem?_getD, hk] using h2⟩
 ·rintro ⟨k, hk, h1, h2⟩
  exact ⟨tab[k], List.getElem_mem hk, by simpa [List.getD_eq_getElem?_getD, hk] using h1, by simpa [List.getD_eq_getElem?_getD, hk] using h2⟩
theorem marks_s : ∀ k, k < 18 → loOf marksTab k ≤ hiOf marksTab k := by decide
theorem wide_s : ∀ k, k < 19 → loOf wideTab k ≤ hiOf wideTab k := by decide
theorem marks_s1 : ∀ k, k < 17 → hiOf marksTab k < loOf marksTab (k + 1) := by decide
theorem wide_s1 : ∀ k, k < 18 → hiOf wideTab k < loOf wideTab (k + 1) := by decide
theorem sorted_of {n : Nat} {lo hi : Nat → Int} (h1 : ∀ k, k < n + 1 → lo k ≤ hi k) (h2 : ∀ k, k < n → hi k < lo (k + 1)) : ∀ k m, k < m → m < n + 1 → hi k < lo m := by
 intro k m
 induction m with
 | zero => intro h; omega
 | succ m ih =>
  intro h hm
  rcases Nat.lt_or_ge k m with h3 | h3
  ·have := ih h3 (by omega); have := h1 m (by omega); have := h2 m (by omega); omega
  ·obtain rfl : k = m := by omega
   exact h2 k (by omega)
def unprinted (r : Int) : Bool := decide (r < 32) || (decide (127 ≤ r) && decide (r < 160)) || (decide (55296 ≤ r) && decide (r ≤ 57343)) || decide (1114111 < r)
def wOf (r : Int) : Int := if unprinted r = true then -1 else if inTab marksTab r = true then 0 else if inTab wideTab r = true then 2 else 1

def Tabs (w : World) : Prop := Pairs w 0 18 (loOf marksTab) (hiOf marksTab) ∧ Pairs w 1 19 (loOf wideTab) (hiOf wideTab)
theorem Tabs.size {w : World} (h : Tabs w) : 2 ≤ w.heap.size := h.2.1
theorem Tabs.below {w w' : World} {B : Nat} (h : Tabs w) (hb : Below B w w') (hB : 2 ≤ B) : Tabs w' := ⟨h.1.below hb (by omega), h.2.below hb (by omega)⟩
theorem Tabs.bel {w w' : World} (h : Tabs w) (hb : Below w.heap.size w w') : Tabs w' := h.below hb h.size

set_option maxHeartbeats 400000 in
theorem widthin_any (b n c : Nat) (lo hi : Nat → Int) (r : Int) (is : Bool) (w : World) (hp : Pairs w b n lo hi) (hn : n ≤ 100) (hs : ∀ k, k < n → lo k ≤ hi k) (hs2 : ∀ k m, k < m → m < n → hi k < lo m)
  (his : is = true ↔ ∃ k, k < n ∧ lo k ≤ r ∧ r ≤ hi k) :
  Calls Tryd.prog 70 #[.slice (some ⟨b, 0, none⟩) n c, .int .i32 r] w fun e w' => e = .returned (.bool is) ∧ Below w.heap.size w w' := by
 have HC := Lib.hid (search_any b n c lo hi r w hp hn hs hs2)
 have HI := Lib.hid his
 clear hp hs hs2 his
 go_enter Tryd.func70, Tryd.ntmps70
 go_wp2_with fail
 refine HC.out.mono ?_
 rintro e w2 ⟨⟨i, is', rfl, h⟩, hb⟩
 have HE : is' = is := by rw [Bool.eq_iff_iff]; exact h.trans HI.out.symm
 subst HE
 clear h HI
 go_wp2_with fail
 go_ret
 exact ⟨rfl, hb⟩
theorem mark_call {r : Int} (w : World) (ht : Tabs w) (c : Nat) : Calls Tryd.prog 70 #[.slice (some ⟨0, 0, none⟩) 18 c, .int .i32 r] w fun e w' => e = .returned (.bool (inTab marksTab r)) ∧ Below w.heap.size w w' :=
 widthin_any _ _ _ _ _ _ _ w ht.1 (by omega) marks_s (sorted_of marks_s marks_s1) (inTab_iff marksTab r)
theorem wide_call {r : Int} (w : World) (ht : Tabs w) (c : Nat) : Calls Tryd.prog 70 #[.slice (some ⟨1, 0, none⟩) 19 c, .int .i32 r] w fun e w' => e = .returned (.bool (inTab wideTab r)) ∧ Below w.heap.size w w' :=
 widthin_any _ _ _ _ _ _ _ w ht.2 (by omega) wide_s (sorted_of wide_s wide_s1) (inTab_iff wideTab r)

end Go.Proofs.YtppijfjigcoifaaDoor

namespace Go.Proofs.YtppijfjigcoifaaDoor
open Go.RowKit

theorem unprinted_cases {r : Int} (h : unprinted r = true) : r < 32 ∨ (127 ≤ r ∧ r < 160) ∨ (55296 ≤ r ∧ r ≤ 57343) ∨ 1114111 < r := by
 simp only [unprinted, Bool.or_eq_true, Bool.and_eq_true, decide_eq_true_eq] at h; omega
theorem printed_cases {r : Int} (h : unprinted r = false) : (32 ≤ r ∧ r < 127) ∨ (160 ≤ r ∧ r < 55296) ∨ (57343 < r ∧ r ≤ 1114111) := by
 simp only [unprinted, Bool.or_eq_false_iff, Bool.and_eq_false_imp, decide_eq_false_iff_not, decide_eq_true_eq] at h; omega

set_option maxHeartbeats 1000000 in
theorem widthOf_any (r : Int) (w : World) (ht : Tabs w) : Calls Tryd.prog 32 #[.int .i32 r] w fun e w' => e = .returned (.int .i64 (wOf r)) ∧ Below w.heap.size w w' := by
 have HT := Lib.hid ht
 clear ht
 cases hu : unprinted r
 ·have hr := printed_cases hu
  cases hm : inTab marksTab r
  ·cases hw : inTab wideTab r
   ·have H1 := Lib.hid (show wOf r = 1 by simp [wOf, hu, hm, hw])
    clear hu
    rcases hr with ⟨h1, h2⟩ | ⟨h1, h2⟩ | ⟨h1, h2⟩
    all_goals
     go_enter Tryd.func32, Tryd.ntmps32
     go_wp2_with fail
     refine (mark_call _ HT.out _).mono ?_
     rintro e w2 ⟨rfl, hb⟩
     rw [hm]
     go_wp2_with fail
     refine (wide_call _ (HT.out.bel hb) _).mono ?_
     rintro e w3 ⟨rfl, hb3⟩
     rw [hw]
     go_wp2_with fail
     go_ret
     exact ⟨by rw [H1.out]; rfl, hb.trans (hb3.mono hb.size)⟩
   ·have H1 := Lib.hid (show wOf r = 2 by simp [wOf, hu, hm, hw])
    clear hu
    rcases hr with ⟨h1, h2⟩ | ⟨h1, h2⟩ | ⟨h1, h2⟩
    all_goals
     go_enter Tryd.func32, Tryd.ntmps32
     go_wp2_with fail
     refine (mark_call _ HT.out _).mono ?_
     rintro e w2 ⟨rfl, hb⟩
     rw [hm]
     go_wp2_with fail
     refine (wide_call _ (HT.out.bel hb) _).mono ?_
     rintro e w3 ⟨rfl, hb3⟩
     rw [hw]
     go_wp2_with fail
     go_ret
     exact ⟨by rw [H1.out]; rfl, hb.trans (hb3.mono hb.size)⟩
  ·have H1 := Lib.hid (show wOf r = 0 by simp [wOf, hu, hm])
   clear hu
   rcases hr with ⟨h1, h2⟩ | ⟨h1, h2⟩ | ⟨h1, h2⟩
   all_goals
    go_enter Tryd.func32, Tryd.ntmps32
    go_wp2_with fail
    refine (mark_call _ HT.out _).mono ?_
    rintro e w2 ⟨rfl, hb⟩
    rw [hm]
    go_wp2_with fail
    go_ret
    exact ⟨by rw [H1.out]; rfl, hb⟩
 ·have hr := unprinted_cases hu
  have H1 := Lib.hid (show wOf r = -1 by simp [wOf, hu])
  clear hu
  rcases hr with h1 | ⟨h1, h2⟩ | ⟨h1, h2⟩ | h1
  all_goals
   go_enter Tryd.func32, Tryd.ntmps32
   go_wp2_with fail
   go_ret
   exact ⟨by rw [H1.out]; rfl, Below.refl _ _⟩

theorem upto_succ {p : Nat → Prop} {a : Nat} (h : ∀ k, k < a → p k) (ha : p a) : ∀ k, k < a + 1 → p k := by
 intro k hk
 rcases Nat.lt_or_ge k a with h3 | h3
 ·exact h k h3
 ·obtain rfl : k = a := by omega
  exact ha

end Go.Proofs.YtppijfjigcoifaaDoor

namespace Go.Proofs.YtppijfjigcoifaaDoor
open Go.RowKit

theorem penIndex_any (n : Int) (w : World) : Calls Tryd.prog 100 #[.int .u8 n] w fun e w' => e = .returned (.agg #[.int .i64 1, .int .u8 n, .int .u8 0, .int .u8 0, .int .u8 0]) ∧ Below w.heap.size w w' := by
 go_enter Tryd.func100, Tryd.ntmps100
 go_wp2
 exact bodyPost_ret (v := .agg #[.int .i64 1, .int .u8 n, .int .u8 0, .int .u8 0, .int .u8 0]) (by simp [results, Tryd.results100, go_sem]) rfl ⟨rfl, (Below.refl _ _).alloc (Nat.le_refl _) _⟩
theorem penTrue_any (r g b : Int) (w : World) : Calls Tryd.prog 101 #[.int .u8 r, .int .u8 g, .int .u8 b] w fun e w' => e = .returned (.agg #[.int .i64 2, .int .u8 0, .int .u8 r, .int .u8 g, .int .u8 b]) ∧ Below w.heap.size w w' := by
 go_enter Tryd.func101, Tryd.ntmps101
 go_wp2
 exact bodyPost_ret (v := .agg #[.int .i64 2, .int .u8 0, .int .u8 r, .int .u8 g, .int .u8 b]) (by simp [results, Tryd.results101, go_sem]) rfl ⟨rfl, (Below.refl _ _).alloc (Nat.le_refl _) _⟩

theorem eql_color (k i r g b k' i' r' g' b' : Int) (w : World) : (binOp .eql 51 (.agg #[.int .i64 k, .int .u8 i, .int .u8 r, .int .u8 g, .int .u8 b]) (.agg #[.int .i64 k', .int .u8 i', .int .u8 r', .int .u8 g', .int .u8 b'])).run Tryd.prog w = .ok (.bool (decide (k = k' ∧ i = i' ∧ r = r' ∧ g = g' ∧ b = b'))) w := by
 by_cases h0 : k = k'
 case neg => simp [go_sem, h0]
 by_cases h1 : i = i'
 case neg => simp [go_sem, h0, h1]
 by_cases h2 : r = r'
 case neg => simp [go_sem, h0, h1, h2]
 by_cases h3 : g = g'
 case neg => simp [go_sem, h0, h1, h2, h3]
 by_cases h4 : b = b' <;> simp [go_sem, h0, h1, h2, h3, h4]

set_option maxHeartbeats 400000 in
theorem penValidColor_any (k i r g b : Int) (w : World) : Calls Tryd.prog 97 #[.agg #[.int .i64 k, .int .u8 i, .int .u8 r, .int .u8 g, .int .u8 b]] w fun e w' => e = .returned (.bool (colorOk k i r g b)) ∧ Below w.heap.size w w' := by
 have he := eql_color
 by_cases h0 : k = 0
 ·subst h0
  go_enter Tryd.func97, Tryd.ntmps97
  go_wp2
  go_ret
  exact ⟨by simp [colorOk], (Below.refl _ _).alloc (Nat.le_refl _) _⟩
 by_cases h1 : k = 1
 ·subst h1
  go_enter Tryd.func97, Tryd.ntmps97
  go_wp2
  refine wp_region_below (by kernel_rfl) (by kernel_rfl) ?_
  repeat (go_big_quiet_step ((go_at_call 100; exact quiet_below (penIndex_any _ _))))
  refine wpQuiet_nil ?_
  intro w2 hb
  go_wp2
  go_ret
  exact ⟨by simp [colorOk], (box_keep hb (by simp)).2.2.2⟩
 by_cases h2 : k = 2
 ·subst h2
  go_enter Tryd.func97, Tryd.ntmps97
  go_wp2
  refine wp_region_below (by kernel_rfl) (by kernel_rfl) ?_
  repeat (go_big_quiet_step ((go_at_call 101; exact quiet_below (penTrue_any _ _ _ _))))
  refine wpQuiet_nil ?_
  intro w2 hb
  go_wp2
  go_ret
  exact ⟨by simp [colorOk], (box_keep hb (by simp)).2.2.2⟩
 have h0' : (k == 0) = false := by simpa using h0
 have h1' : (k == 1) = false := by simpa using h1
 have h2' : (k == 2) = false := by simpa using h2
 go_enter Tryd.func97, Tryd.ntmps97
 go_wp2
 go_ret
 exact ⟨by simp [colorOk, h0, h1, h2], (Below.refl _ _).alloc (Nat.le_refl _) _⟩

theorem color_yes {k i r g b : Int} (w : World) (h : colorOk k i r g b = true) : Calls Tryd.prog 97 #[.agg #[.int .i64 k, .int .u8 i, .int .u8 r, .int .u8 g, .int .u8 b]] w fun e w' => e = .returned (.bool true) ∧ Below w.heap.size w w' := h ▸ penValidColor_any k i r g b w
theorem color_no {k i r g b : Int} (w : World) (h : colorOk k i r g b = false) : Calls Tryd.prog 97 #[.agg #[.int .i64 k, .int .u8 i, .int .u8 r, .int .u8 g, .int .u8 b]] w fun e w' => e = .returned (.bool false) ∧ Below w.heap.size w w' := h ▸ penValidColor_any k i r g b w

set_option maxHeartbeats 400000 in
theorem penValid_any (p : Pen) (w : World) : Calls Tryd.prog 92 #[.agg #[.int .i64 p.fk, .int .u8 p.fi, .int .u8 p.fr, .int .u8 p.fg, .int .u8 p.fb, .int .i64 p.bk, .int .u8 p.bi, .int .u8 p.br, .int .u8 p.bg, .int .u8 p.bb, .int .u8 p.fl]] w fun e w' => e = .returned (.bool p.ok) ∧ Below w.heap.size w w' := by
 cases h1 : colorOk p.fk p.fi p.fr p.fg p.fb
 ·go_enter Tryd.func92, Tryd.ntmps92
  go_wp2_with fail
  refine (color_no _ h1).mono ?_
  rintro e w2 ⟨rfl, hb⟩
  obtain ⟨hx, hf, hz, hb2⟩ := box_keep hb (by simp)
  clear hb
  go_wp2_with fail
  go_ret
  exact ⟨by simp [Pen.ok, h1], hb2⟩
 ·go_enter Tryd.func92, Tryd.ntmps92
  go_wp2_with fail
  refine (color_yes _ h1).mono ?_
  rintro e w2 ⟨rfl, hb⟩
  obtain ⟨hx, hf, hz, hb2⟩ := box_keep hb (by simp)
  clear hb
  go_wp2_with fail
  refine (penValidColor_any _ _ _ _ _ _).mono ?_
  rintro e w3 ⟨rfl, hb3⟩
  go_wp2_with fail
  go_ret
  exact ⟨by simp [Pen.ok, h1], hb2.trans (hb3.mono (by omega))⟩
theorem pen_yes {p : Pen} (w : World) (h : p.ok = true) : Calls Tryd.prog 92 #[.agg #[.int .i64 p.fk, .int .u8 p.fi, .int .u8 p.fr, .int .u8 p.fg, .int .u8 p.fb, .int .i64 p.bk, .int .u8 p.bi, .int .u8 p.br, .int .u8 p.bg, .int .u8 p.bb, .int .u8 p.fl]] w fun e w' => e = .returned (.bool true) ∧ Below w.heap.size w w' := h ▸ penValid_any p w
theorem pen_no {p : Pen} (w : World) (h : p.ok = false) : Calls Tryd.prog 92 #[.agg #[.int .i64 p.fk, .int .u8 p.fi, .int .u8 p.fr, .int .u8 p.fg, .int .u8 p.fb, .int .i64 p.bk, .int .u8 p.bi, .int .u8 p.br, .int .u8 p.bg, .int .u8 p.bb, .int .u8 p.fl]] w fun e w' => e = .returned (.bool false) ∧ Below w.heap.size w w' := h ▸ penValid_any p w

end Go.Proofs.YtppijfjigcoifaaDoor

namespace Go.Proofs.YtppijfjigcoifaaDoor
open Go.RowKit

theorem info_i32 : (Tryd.prog.info? 21).isSome = true := by kernel_rfl
theorem cellsOf_i32 : Tryd.prog.cellsOf 21 = 1 := by kernel_rfl
theorem eqIn_arr3 (d : Nat) (a0 a1 a2 b0 b1 b2 : Int) (w : World) : (Op.equalIn (d + 2) 69 (.agg #[.int .i32 a0, .int .i32 a1, .int .i32 a2]) (.agg #[.int .i32 b0, .int .i32 b1, .int .i32 b2])).run Tryd.prog w = .ok (decide ((a0, a1, a2) = (b0, b1, b2))) w := by
 obtain ⟨i, hi⟩ := Option.isSome_iff_exists.1 info_i32
 have u := Tryd.underlying21
 rw [run_equalIn_array w (d + 1) _ _ Tryd.underlying69 hi, cellsOf_i32]
 simp only [show List.range 3 = [0, 1, 2] from rfl, Op.eqItems]
 by_cases h0 : a0 = b0
 case neg => simp [go_sem, h0]
 by_cases h1 : a1 = b1
 case neg => simp [go_sem, h0, h1]
 by_cases h2 : a2 = b2
 case neg => simp [go_sem, h0, h1, h2]
 simp [go_sem, h0, h1, h2]
theorem eqIn_arr3_top (a0 a1 a2 b0 b1 b2 : Int) (w : World) : (Op.equalIn 10000 69 (.agg #[.int .i32 a0, .int .i32 a1, .int .i32 a2]) (.agg #[.int .i32 b0, .int .i32 b1, .int .i32 b2])).run Tryd.prog w = .ok (decide ((a0, a1, a2) = (b0, b1, b2))) w := eqIn_arr3 9998 a0 a1 a2 b0 b1 b2 w
theorem eqIn_arr3_in (a0 a1 a2 b0 b1 b2 : Int) (w : World) : (Op.equalIn 9999 69 (.agg #[.int .i32 a0, .int .i32 a1, .int .i32 a2]) (.agg #[.int .i32 b0, .int .i32 b1, .int .i32 b2])).run Tryd.prog w = .ok (decide ((a0, a1, a2) = (b0, b1, b2))) w := eqIn_arr3 9997 a0 a1 a2 b0 b1 b2 w

set_option maxHeartbeats 1000000 in
theorem eql_pen (a0 a1 a2 a3 a4 a5 a6 a7 a8 a9 a10 b0 b1 b2 b3 b4 b5 b6 b7 b8 b9 b10 : Int) (w : World) : (binOp .eql 54 (.agg #[.int .i64 a0, .int .u8 a1, .int .u8 a2, .int .u8 a3, .int .u8 a4, .int .i64 a5, .int .u8 a6, .int .u8 a7, .int .u8 a8, .int .u8 a9, .int .u8 a10]) (.agg #[.int .i64 b0, .int .u8 b1, .int .u8 b2, .int .u8 b3, .int .u8 b4, .int .i64 b5, .int .u8 b6, .int .u8 b7, .int .u8 b8, .int .u8 b9, .int .u8 b10])).run Tryd.prog w = .ok (.bool (decide ((⟨a0, a1, a2, a3, a4, a5, a6, a7, a8, a9, a10⟩ : Pen) = (⟨b0, b1, b2, b3, b4, b5, b6, b7, b8, b9, b10⟩ : Pen)))) w := by
 simp [go_sem, eqIn_arr3_top, eqIn_arr3_in]
 by_cases h0 : a0 = b0
 case neg => simp [h0]
 simp only [h0, if_true, true_and]
 by_cases h1 : a1 = b1
 case neg => simp [h1]
 simp only [h1, if_true, true_and]
 by_cases h2 : a2 = b2
 case neg => simp [h2]
 simp only [h2, if_true, true_and]
 by_cases h3 : a3 = b3
 case neg => simp [h3]
 simp only [h3, if_true, true_and]
 by_cases h4 : a4 = b4
 case neg => simp [h4]
 simp only [h4, if_true, true_and]
 by_cases h5 : a5 = b5
 case neg => simp [h5]
 simp only [h5, if_true, true_and]
 by_cases h6 : a6 = b6
 case neg => simp [h6]
 simp only [h6, if_true, true_and]
 by_cases h7 : a7 = b7
 case neg => simp [h7]
 simp only [h7, if_true, true_and]
 by_cases h8 : a8 = b8
 case neg => simp [h8]
 simp only [h8, if_true, true_and]
 by_cases h9 : a9 = b9
 case neg => simp [h9]
 simp only [h9, if_true, true_and]
 by_cases h10 : a10 = b10
 case neg => simp [h10]
 simp only [h10, if_true, true_and]
 simp
set_option maxHeartbeats 1000000 in
theorem eql_cell (a0 a1 a2 a3 a4 a5 a6 a7 a8 a9 a10 a11 a12 a13 a14 a15 b0 b1 b2 b3 b4 b5 b6 b7 b8 b9 b10 b11 b12 b13 b14 b15 : Int) (w : World) : (binOp .eql 71 (.agg #[.int .i32 a0, .int .i32 a1, .int .i32 a2, .int .i32 a3, .int .i64 a4, .int .i64 a5, .int .u8 a6, .int .u8 a7, .int .u8 a8, .int .u8 a9, .int .i64 a10, .int .u8 a11, .int .u8 a12, .int .u8 a13, .int .u8 a14, .int .u8 a15]) (.agg #[.int .i32 b0, .int .i32 b1, .int .i32 b2, .int .i32 b3, .int .i64 b4, .int .i64 b5, .int .u8 b6, .int .u8 b7, .int .u8 b8, .int .u8 b9, .int .i64 b10, .int .u8 b11, .int .u8 b12, .int .u8 b13, .int .u8 b14, .int .u8 b15])).run Tryd.prog w = .ok (.bool (decide ((⟨a0, a1, a2, a3, a4, ⟨a5, a6, a7, a8, a9, a10, a11, a12, a13, a14, a15⟩⟩ : Cell) = (⟨b0, b1, b2, b3, b4, ⟨b5, b6, b7, b8, b9, b10, b11, b12, b13, b14, b15⟩⟩ : Cell)))) w := by
 simp [go_sem, eqIn_arr3_top, eqIn_arr3_in]
 by_cases h0 : a0 = b0
 case neg => simp [h0]
 simp only [h0, if_true, true_and]
 by_cases h1 : a1 = b1
 case neg => simp [h1]
 simp only [h1, if_true, true_and]
 by_cases h2 : a2 = b2
 case neg => simp [h2]
 simp only [h2, if_true, true_and]
 by_cases h3 : a3 = b3
 case neg => simp [h3]
 simp only [h3, if_true, true_and]
 by_cases h4 : a4 = b4
 case neg => simp [h4]
 simp only [h4, if_true, true_and]
 by_cases h5 : a5 = b5
 case neg => simp [h5]
 simp only [h5, if_true, true_and]
 by_cases h6 : a6 = b6
 case neg => simp [h6]
 simp only [h6, if_true, true_and]
 by_cases h7 : a7 = b7
 case neg => simp [h7]
 simp only [h7, if_true, true_and]
 by_cases h8 : a8 = b8
 case neg => simp [h8]
 simp only [h8, if_true, true_and]
 by_cases h9 : a9 = b9
 case neg => simp [h9]
 simp only [h9, if_true, true_and]
 by_cases h10 : a10 = b10
 case neg => simp [h10]
 simp only [h10, if_true, true_and]
 by_cases h11 : a11 = b11
 case neg => simp [h11]
 simp only [h11, if_true, true_and]
 by_cases h12 : a12 = b12
 case neg => simp [h12]
 simp only [h12, if_true, true_and]
 by_cases h13 : a13 = b13
 case neg => simp [h13]
 simp only [h13, if_true, true_and]
 by_cases h14 : a14 = b14
 case neg => simp [h14]
 simp only [h14, if_true, true_and]
 by_cases h15 : a15 = b15
 case neg => simp [h15]
 simp only [h15, if_true, true_and]
 simp
end Go.Proofs.YtppijfjigcoifaaDoor

namespace Go.Proofs.YtppijfjigcoifaaDoor
open Go.RowKit

def pv (p : Pen) : Array Value := #[.int .i64 p.fk, .int .u8 p.fi, .int .u8 p.fr, .int .u8 p.fg, .int .u8 p.fb, .int .i64 p.bk, .int .u8 p.bi, .int .u8 p.br, .int .u8 p.bg, .int .u8 p.bb, .int .u8 p.fl]
def cv (c : Cell) : Array Value := #[.int .i32 c.rune, .int .i32 c.m0, .int .i32 c.m1, .int .i32 c.m2, .int .i64 c.width, .int .i64 c.pen.fk, .int .u8 c.pen.fi, .int .u8 c.pen.fr, .int .u8 c.pen.fg, .int .u8 c.pen.fb, .int .i64 c.pen.bk, .int .u8 c.pen.bi, .int .u8 c.pen.br, .int .u8 c.pen.bg, .int .u8 c.pen.bb, .int .u8 c.pen.fl]
@[go_sem] theorem pv_size (p : Pen) : (pv p).size = 11 := by simp [pv]
@[go_sem] theorem cv_size (c : Cell) : (cv c).size = 16 := by simp [cv]
theorem pv_one (p : Pen) : ∀ v ∈ (pv p).toList, v.oneCell' = true := by simp [pv, Value.oneCell']
theorem cv_one (c : Cell) : ∀ v ∈ (cv c).toList, v.oneCell' = true := by simp [cv, Value.oneCell']
theorem pv_all (p : Pen) : (pv p).all (·.oneCell') = true := by simp [pv, Value.oneCell']
theorem cv_all (c : Cell) : (cv c).all (·.oneCell') = true := by simp [cv, Value.oneCell']
@[simp high, go_sem high] theorem pv_get0 (p : Pen) : (pv p)[0]? = some (.int .i64 p.fk) := by simp [pv]
@[simp high, go_sem high] theorem pv_get1 (p : Pen) : (pv p)[1]? = some (.int .u8 p.fi) := by simp [pv]
@[simp high, go_sem high] theorem pv_get2 (p : Pen) : (pv p)[2]? = some (.int .u8 p.fr) := by simp [pv]
@[simp high, go_sem high] theorem pv_get3 (p : Pen) : (pv p)[3]? = some (.int .u8 p.fg) := by simp [pv]
@[simp high, go_sem high] theorem pv_get4 (p : Pen) : (pv p)[4]? = some (.int .u8 p.fb) := by simp [pv]
@[simp high, go_sem high] theorem pv_get5 (p : Pen) : (pv p)[5]? = some (.int .i64 p.bk) := by simp [pv]
@[simp high, go_sem high] theorem pv_get6 (p : Pen) : (pv p)[6]? = some (.int .u8 p.bi) := by simp [pv]
@[simp high, go_sem high] theorem pv_get7 (p : Pen) : (pv p)[7]? = some (.int .u8 p.br) := by simp [pv]
@[simp high, go_sem high] theorem pv_get8 (p : Pen) : (pv p)[8]? = some (.int .u8 p.bg) := by simp [pv]
@[simp high, go_sem high] theorem pv_get9 (p : Pen) : (pv p)[9]? = some (.int .u8 p.bb) := by simp [pv]
@[simp high, go_sem high] theorem pv_get10 (p : Pen) : (pv p)[10]? = some (.int .u8 p.fl) := by simp [pv]
@[simp high, go_sem high] theorem cv_get0 (c : Cell) : (cv c)[0]? = some (.int .i32 c.rune) := by simp [cv]
@[simp high, go_sem high] theorem cv_get1 (c : Cell) : (cv c)[1]? = some (.int .i32 c.m0) := by simp [cv]
@[simp high, go_sem high] theorem cv_get2 (c : Cell) : (cv c)[2]? = some (.int .i32 c.m1) := by simp [cv]
@[simp high, go_sem high] theorem cv_get3 (c : Cell) : (cv c)[3]? = some (.int .i32 c.m2) := by simp [cv]
@[simp high, go_sem high] theorem cv_get4 (c : Cell) : (cv c)[4]? = some (.int .i64 c.width) := by simp [cv]
@[simp high, go_sem high] theorem cv_get5 (c : Cell) : (cv c)[5]? = some (.int .i64 c.pen.fk) := by simp [cv]
@[simp high, go_sem high] theorem cv_get6 (c : Cell) : (cv c)[6]? = some (.int .u8 c.pen.fi) := by simp [cv]
@[simp high, go_sem high] theorem cv_get7 (c : Cell) : (cv c)[7]? = some (.int .u8 c.pen.fr) := by simp [cv]
@[simp high, go_sem high] theorem cv_get8 (c : Cell) : (cv c)[8]? = some (.int .u8 c.pen.fg) := by simp [cv]
@[simp high, go_sem high] theorem cv_get9 (c : Cell) : (cv c)[9]? = some (.int .u8 c.pen.fb) := by simp [cv]
@[simp high, go_sem high] theorem cv_get10 (c : Cell) : (cv c)[10]? = some (.int .i64 c.pen.bk) := by simp [cv]
@[simp high, go_sem high] theorem cv_get11 (c : Cell) : (cv c)[11]? = some (.int .u8 c.pen.bi) := by simp [cv]
@[simp high, go_sem high] theorem cv_get12 (c : Cell) : (cv c)[12]? = some (.int .u8 c.pen.br) := by simp [cv]
@[simp high, go_sem high] theorem cv_get13 (c : Cell) : (cv c)[13]? = some (.int .u8 c.pen.bg) := by simp [cv]
@[simp high, go_sem high] theorem cv_get14 (c : Cell) : (cv c)[14]? = some (.int .u8 c.pen.bb) := by simp [cv]
@[simp high, go_sem high] theorem cv_get15 (c : Cell) : (cv c)[15]? = some (.int .u8 c.pen.fl) := by simp [cv]
@[simp high, go_sem high] theorem cv_at0 (c : Cell) (h : 0 < (cv c).size) : (cv c)[0]'h = .int .i32 c.rune := by simp [cv]
@[simp high, go_sem high] theorem cv_at1 (c : Cell) (h : 1 < (cv c).size) : (cv c)[1]'h = .int .i32 c.m0 := by simp [cv]
@[simp high, go_sem high] theorem cv_at2 (c : Cell) (h : 2 < (cv c).size) : (cv c)[2]'h = .int .i32 c.m1 := by simp [cv]
@[simp high, go_sem high] theorem cv_at3 (c : Cell) (h : 3 < (cv c).size) : (cv c)[3]'h = .int .i32 c.m2 := by simp [cv]
@[simp high, go_sem high] theorem cv_at4 (c : Cell) (h : 4 < (cv c).size) : (cv c)[4]'h = .int .i64 c.width := by simp [cv]
@[simp high, go_sem high] theorem cv_at5 (c : Cell) (h : 5 < (cv c).size) : (cv c)[5]'h = .int .i64 c.pen.fk := by simp [cv]
@[simp high, go_sem high] theorem cv_at6 (c : Cell) (h : 6 < (cv c).size) : (cv c)[6]'h = .int .u8 c.pen.fi := by simp [cv]
@[simp high, go_sem high] theorem cv_at7 (c : Cell) (h : 7 < (cv c).size) : (cv c)[7]'h = .int .u8 c.pen.fr := by simp [cv]
@[simp high, go_sem high] theorem cv_at8 (c : Cell) (h : 8 < (cv c).size) : (cv c)[8]'h = .int .u8 c.pen.fg := by simp [cv]
@[simp high, go_sem high] theorem cv_at9 (c : Cell) (h : 9 < (cv c).size) : (cv c)[9]'h = .int .u8 c.pen.fb := by simp [cv]
@[simp high, go_sem high] theorem cv_at10 (c : Cell) (h : 10 < (cv c).size) : (cv c)[10]'h = .int .i64 c.pen.bk := by simp [cv]
@[simp high, go_sem high] theorem cv_at11 (c : Cell) (h : 11 < (cv c).size) : (cv c)[11]'h = .int .u8 c.pen.bi := by simp [cv]
@[simp high, go_sem high] theorem cv_at12 (c : Cell) (h : 12 < (cv c).size) : (cv c)[12]'h = .int .u8 c.pen.br := by simp [cv]
@[simp high, go_sem high] theorem cv_at13 (c : Cell) (h : 13 < (cv c).size) : (cv c)[13]'h = .int .u8 c.pen.bg := by simp [cv]
@[simp high, go_sem high] theorem cv_at14 (c : Cell) (h : 14 < (cv c).size) : (cv c)[14]'h = .int .u8 c.pen.bb := by simp [cv]
@[simp high, go_sem high] theorem cv_at15 (c : Cell) (h : 15 < (cv c).size) : (cv c)[15]'h = .int .u8 c.pen.fl := by simp [cv]
@[go_sem] theorem fill_cell (z d : Cell) : Array.foldl (fun cs x => cs.setIfInBounds x.snd x.fst) (cv z) (cv d).zipIdx 0 16 = cv d := by
 simp [cv, Array.zipIdx]
@[go_sem] theorem cv_set0 (c : Cell) (n : Int) : (cv c).setIfInBounds 0 (.int .i32 n) = cv { c with rune := n } := by simp [cv]
@[go_sem] theorem cv_set1 (c : Cell) (n : Int) : (cv c).setIfInBounds 1 (.int .i32 n) = cv { c with m0 := n } := by simp [cv]
@[go_sem] theorem cv_set2 (c : Cell) (n : Int) : (cv c).setIfInBounds 2 (.int .i32 n) = cv { c with m1 := n } := by simp [cv]
@[go_sem] theorem cv_set3 (c : Cell) (n : Int) : (cv c).setIfInBounds 3 (.int .i32 n) = cv { c with m2 := n } := by simp [cv]
@[go_sem] theorem cv_set4 (c : Cell) (n : Int) : (cv c).setIfInBounds 4 (.int .i64 n) = cv { c with width := n } := by simp [cv]
@[go_sem] theorem cv_set15 (c : Cell) (n : Int) : (cv c).setIfInBounds 15 (.int .u8 n) = cv { c with pen := { c.pen with fl := n } } := by simp [cv]
@[go_sem] theorem fold_pen (p : Pen) : (#[.int .i64 p.fk, .int .u8 p.fi, .int .u8 p.fr, .int .u8 p.fg, .int .u8 p.fb, .int .i64 p.bk, .int .u8 p.bi, .int .u8 p.br, .int .u8 p.bg, .int .u8 p.bb, .int .u8 p.fl] : Array Value) = pv p := by simp [pv]
@[go_sem] theorem fold_cell (c : Cell) : (#[.int .i32 c.rune, .int .i32 c.m0, .int .i32 c.m1, .int .i32 c.m2, .int .i64 c.width, .int .i64 c.pen.fk, .int .u8 c.pen.fi, .int .u8 c.pen.fr, .int .u8 c.pen.fg, .int .u8 c.pen.fb, .int .i64 c.pen.bk, .int .u8 c.pen.bi, .int .u8 c.pen.br, .int .u8 c.pen.bg, .int .u8 c.pen.bb, .int .u8 c.pen.fl] : Array Value) = cv c := by simp [cv]
def penf (n : Int) : Pen := ⟨0, 0, 0, 0, 0, 0, 0, 0, 0, 0, n⟩
@[go_sem] theorem penf_zero : penf 0 = pen0 := by simp [penf, pen0]
@[go_sem] theorem eta_pen (p : Pen) : Pen.mk p.fk p.fi p.fr p.fg p.fb p.bk p.bi p.br p.bg p.bb p.fl = p := by cases p; simp
@[go_sem] theorem eta_cell (c : Cell) : Cell.mk c.rune c.m0 c.m1 c.m2 c.width c.pen = c := by cases c; simp
@[go_sem] theorem fold_pen0 (n : Int) : (#[.int .i64 0, .int .u8 0, .int .u8 0, .int .u8 0, .int .u8 0, .int .i64 0, .int .u8 0, .int .u8 0, .int .u8 0, .int .u8 0, .int .u8 n] : Array Value) = pv (penf n) := by simp [pv, penf]
@[go_sem] theorem fold_cell0 (r a b c n m : Int) : (#[.int .i32 r, .int .i32 a, .int .i32 b, .int .i32 c, .int .i64 n, .int .i64 0, .int .u8 0, .int .u8 0, .int .u8 0, .int .u8 0, .int .i64 0, .int .u8 0, .int .u8 0, .int .u8 0, .int .u8 0, .int .u8 m] : Array Value) = cv ⟨r, a, b, c, n, penf m⟩ := by simp [cv, penf]
@[go_sem] theorem fold_cellp (r a b c n : Int) (p : Pen) : (#[.int .i32 r, .int .i32 a, .int .i32 b, .int .i32 c, .int .i64 n, .int .i64 p.fk, .int .u8 p.fi, .int .u8 p.fr, .int .u8 p.fg, .int .u8 p.fb, .int .i64 p.bk, .int .u8 p.bi, .int .u8 p.br, .int .u8 p.bg, .int .u8 p.bb, .int .u8 p.fl] : Array Value) = cv ⟨r, a, b, c, n, p⟩ := by simp [cv]

@[go_sem] theorem fill_pen (c : Cell) (p : Pen) : Array.foldl (fun cs x => cs.setIfInBounds (5 + x.snd) x.fst) (cv c) (pv p).zipIdx 0 11 = cv { c with pen := p } := by
 simp [cv, pv, Array.zipIdx]

theorem cell_size : (Tryd.prog.info? 71).map (·.size) = some 16 := by kernel_rfl
theorem pen_size : (Tryd.prog.info? 54).map (·.size) = some 11 := by kernel_rfl
def ldC (a : Addr) : Sem (Array Value) := loadCells a 16
def ldP (a : Addr) : Sem (Array Value) := loadCells a 11
@[go_sem ↓] theorem load_ldC (a : Addr) : loadCellsFrom a 0 16 #[] = ldC a := rfl
@[go_sem ↓] theorem load_ldP (a : Addr) : loadCellsFrom a 0 11 #[] = ldP a := rfl
theorem add_at (b o j : Nat) : (⟨b, o, none⟩ : Addr).add j = ⟨b, o + j, none⟩ := by unfold Addr.add; split <;> simp_all
theorem ldC_of {w : World} {b o : Nat} {c : Cell} (h : w.rangeAt b o (cv c).toList) : (ldC ⟨b, o, none⟩).run Tryd.prog w = .ok (cv c) w := by
 have := run_loadCells_list (P := Tryd.prog) w ⟨b, o, none⟩ (cv c).toList (fun j v hv => by rw [add_at]; exact h j v hv)
 simpa [ldC, cv_size] using this
theorem ldP_of {w : World} {b o : Nat} {p : Pen} (h : w.rangeAt b o (pv p).toList) : (ldP ⟨b, o, none⟩).run Tryd.prog w = .ok (pv p) w := by
 have := run_loadCells_list (P := Tryd.prog) w ⟨b, o, none⟩ (pv p).toList (fun j v hv => by rw [add_at]; exact h j v hv)
 simpa [ldP, pv_size] using this
theorem cv_pen {w : World} {b o : Nat} {c : Cell} (h : w.rangeAt b o (cv c).toList) : w.rangeAt b (o + 5) (pv c.pen).toList := fun j v hv => by
 have := h (5 + j) v (by rw [← hv]; show ((cv c).toList)[5 + j]? = _; rw [← List.getElem?_drop]; rfl)
 rw [show o + 5 + j = o + (5 + j) by omega]; exact this
theorem rangeAt_new (w : World) (cs : Array Value) (t : TypeId) : (w.alloc (.cells cs t)).rangeAt w.heap.size 0 cs.toList := fun j v hv => by
 rw [cell_of_row _ _ _ _ _ _ (heap_alloc_new w _)]; simpa using hv
theorem cv_inj {c d : Cell} (h : cv c = cv d) : c = d := by
 obtain ⟨a0, a1, a2, a3, a4, ⟨b0, b1, b2, b3, b4, b5, b6, b7, b8, b9, b10⟩⟩ := c
 obtain ⟨c0, c1, c2, c3, c4, ⟨d0, d1, d2, d3, d4, d5, d6, d7, d8, d9, d10⟩⟩ := d
 simpa [cv, and_assoc] using h
theorem pv_inj {c d : Pen} (h : pv c = pv d) : c = d := by
 obtain ⟨b0, b1, b2, b3, b4, b5, b6, b7, b8, b9, b10⟩ := c
 obtain ⟨d0, d1, d2, d3, d4, d5, d6, d7, d8, d9, d10⟩ := d
 simpa [pv, and_assoc] using h
theorem rangeAt_det {w : World} {b o : Nat} {xs ys : Array Value} (hl : xs.size = ys.size) (h : w.rangeAt b o xs.toList) (k : w.rangeAt b o ys.toList) : xs = ys := by
 apply Array.ext_getElem?
 intro i
 rcases Nat.lt_or_ge i xs.size with hi | hi
 ·have h1 := h i xs[i] (by simp [hi])
  have h2 := k i (ys[i]'(by omega)) (by simp [show i < ys.size by omega])
  rw [h1] at h2
  simp [hi, show i < ys.size by omega, Option.some.inj h2]
 ·rw [Array.getElem?_eq_none hi, Array.getElem?_eq_none (by omega)]
open Classical in
noncomputable def cellAt (w : World) (b o : Nat) : Option Cell := if h : ∃ c, w.rangeAt b o (cv c).toList then some h.choose else none
open Classical in
noncomputable def penAt (w : World) (b o : Nat) : Option Pen := if h : ∃ c, w.rangeAt b o (pv c).toList then some h.choose else none
theorem cellAt_of {w : World} {b o : Nat} {c : Cell} (h : w.rangeAt b o (cv c).toList) : cellAt w b o = some c := by
 have hx : ∃ c, w.rangeAt b o (cv c).toList := ⟨c, h⟩
 unfold cellAt
 rw [dif_pos hx]
 exact congrArg some (cv_inj (rangeAt_det (xs := cv hx.choose) (ys := cv c) rfl hx.choose_spec h))
theorem penAt_of {w : World} {b o : Nat} {c : Pen} (h : w.rangeAt b o (pv c).toList) : penAt w b o = some c := by
 have hx : ∃ c, w.rangeAt b o (pv c).toList := ⟨c, h⟩
 unfold penAt
 rw [dif_pos hx]
 exact congrArg some (pv_inj (rangeAt_det (xs := pv hx.choose) (ys := pv c) rfl hx.choose_spec h))
theorem range_of_cellAt {w : World} {b o : Nat} {c : Cell} (h : cellAt w b o = some c) : w.rangeAt b o (cv c).toList := by
 unfold cellAt at h
 split at h
 ·rename_i hx; have := hx.choose_spec; rw [Option.some.inj h] at this; exact this
 ·cases h
theorem range_of_penAt {w : World} {b o : Nat} {c : Pen} (h : penAt w b o = some c) : w.rangeAt b o (pv c).toList := by
 unfold penAt at h
 split at h
 ·rename_i hx; have := hx.choose_spec; rw [Option.some.inj h] at this; exact this
 ·cases h
theorem penAt_of_cell {w : World} {b o : Nat} {c : Cell} (h : cellAt w b o = some c) : penAt w b (o + 5) = some c.pen := penAt_of (cv_pen (range_of_cellAt h))
theorem rangeAt_same {w w' : World} {b o : Nat} {xs : List Value} (h : ∀ i, w'.cell? ⟨b, i, none⟩ = w.cell? ⟨b, i, none⟩) : w'.rangeAt b o xs ↔ w.rangeAt b o xs := by
 constructor <;> intro k j v hv
 ·rw [← h]; exact k j v hv
 ·rw [h]; exact k j v hv
theorem cellAt_same {w w' : World} {b : Nat} (h : ∀ i, w'.cell? ⟨b, i, none⟩ = w.cell? ⟨b, i, none⟩) (o : Nat) : cellAt w' b o = cellAt w b o := by
 cases h1 : cellAt w b o with
 | some c => exact cellAt_of ((rangeAt_same h).2 (range_of_cellAt h1))
 | none =>
  cases h2 : cellAt w' b o with
  | none => rfl
  | some c => rw [cellAt_of ((rangeAt_same h).1 (range_of_cellAt h2))] at h1; cases h1
theorem penAt_same {w w' : World} {b : Nat} (h : ∀ i, w'.cell? ⟨b, i, none⟩ = w.cell? ⟨b, i, none⟩) (o : Nat) : penAt w' b o = penAt w b o := by
 cases h1 : penAt w b o with
 | some c => exact penAt_of ((rangeAt_same h).2 (range_of_penAt h1))
 | none =>
  cases h2 : penAt w' b o with
  | none => rfl
  | some c => rw [penAt_of ((rangeAt_same h).1 (range_of_penAt h2))] at h1; cases h1
@[go_sem] theorem cellAt_alloc (w : World) (ob : Obj) (b o : Nat) (h : b < w.heap.size) : cellAt (w.alloc ob) b o = cellAt w b o := cellAt_same (fun i => World.cell?_alloc_lt w ob ⟨b, i, none⟩ h) o
@[go_sem] theorem penAt_alloc (w : World) (ob : Obj) (b o : Nat) (h : b < w.heap.size) : penAt (w.alloc ob) b o = penAt w b o := penAt_same (fun i => World.cell?_alloc_lt w ob ⟨b, i, none⟩ h) o
theorem cellAt_below {w w' : World} {B b : Nat} (hb : Below B w w') (h : b < B) (o : Nat) : cellAt w' b o = cellAt w b o := cellAt_same (fun i => hb.cell (p := ⟨b, i, none⟩) h) o
@[go_sem] theorem cellAt_plus (w x : World) (b o : Nat) (h : b < w.heap.size) : cellAt (plus w x) b o = cellAt w b o := cellAt_same (fun i => cell_plus w x b i h) o
@[go_sem] theorem penAt_plus (w x : World) (b o : Nat) (h : b < w.heap.size) : penAt (plus w x) b o = penAt w b o := penAt_same (fun i => cell_plus w x b i h) o
@[go_sem] theorem cellAt_drew (w : World) (b o : Nat) : cellAt w.drew b o = cellAt w b o := rfl
@[go_sem] theorem penAt_drew (w : World) (b o : Nat) : penAt w.drew b o = penAt w b o := rfl
@[go_sem] theorem cellAt_new {b : Nat} (w : World) (c : Cell) (t : TypeId) (hb : b = w.heap.size) : cellAt (w.alloc (.cells (cv c) t)) b 0 = some c := by
 subst hb; exact cellAt_of (rangeAt_new w _ t)
@[go_sem] theorem penAt_new {b : Nat} (w : World) (p : Pen) (t : TypeId) (hb : b = w.heap.size) : penAt (w.alloc (.cells (pv p) t)) b 0 = some p := by
 subst hb; exact penAt_of (rangeAt_new w _ t)
@[go_sem] theorem penAt_new5 {b : Nat} (w : World) (c : Cell) (t : TypeId) (hb : b = w.heap.size) : penAt (w.alloc (.cells (cv c) t)) b 5 = some c.pen :=
 penAt_of_cell (cellAt_new w c t hb)
@[go_sem] theorem run_ldC (w : World) (b o : Nat) (h : (cellAt w b o).isSome = true) : (ldC ⟨b, o, none⟩).run Tryd.prog w = .ok (cv ((cellAt w b o).getD cell0)) w := by
 obtain ⟨c, hc⟩ := Option.isSome_iff_exists.1 h
 rw [hc]; exact ldC_of (range_of_cellAt hc)
@[go_sem] theorem run_ldP (w : World) (b o : Nat) (h : (penAt w b o).isSome = true) : (ldP ⟨b, o, none⟩).run Tryd.prog w = .ok (pv ((penAt w b o).getD pen0)) w := by
 obtain ⟨c, hc⟩ := Option.isSome_iff_exists.1 h
 rw [hc]; exact ldP_of (range_of_penAt hc)
@[go_sem] theorem store_cv_new {b : Nat} (w : World) (zs : Array Value) (c : Cell) (hb : b = w.heap.size) (hz : zs.size = 16) :
  (storeCells ⟨b, 0, none⟩ (cv c).toList 0).run Tryd.prog (w.alloc (.cells zs 71)) = .ok () (w.alloc (.cells (cv c) 71)) := by
 subst hb
 exact run_storeCells_new w 71 zs (cv c) (by rw [cell_size]; rfl) hz (cv_all c)
@[go_sem] theorem store_pv_new {b : Nat} (w : World) (zs : Array Value) (p : Pen) (hb : b = w.heap.size) (hz : zs.size = 11) :
  (storeCells ⟨b, 0, none⟩ (pv p).toList 0).run Tryd.prog (w.alloc (.cells zs 54)) = .ok () (w.alloc (.cells (pv p) 54)) := by
 subst hb
 exact run_storeCells_new w 54 zs (pv p) (by rw [pen_size]; rfl) hz (pv_all p)

@[go_sem high] theorem eqIn_cv (a b : Cell) (w : World) : (Op.equalIn 10000 71 (.agg (cv a)) (.agg (cv b))).run Tryd.prog w = .ok (decide (a = b)) w := by
 have h := eql_cell a.rune a.m0 a.m1 a.m2 a.width a.pen.fk a.pen.fi a.pen.fr a.pen.fg a.pen.fb a.pen.bk a.pen.bi a.pen.br a.pen.bg a.pen.bb a.pen.fl b.rune b.m0 b.m1 b.m2 b.width b.pen.fk b.pen.fi b.pen.fr b.pen.fg b.pen.fb b.pen.bk b.pen.bi b.pen.br b.pen.bg b.pen.bb b.pen.fl w
 rw [run_eql_struct] at h
 change ((Op.equalIn 10000 71 (.agg (cv a)) (.agg (cv b))).run Tryd.prog w).andThen _ = _ at h
 generalize (Op.equalIn 10000 71 (.agg (cv a)) (.agg (cv b))).run Tryd.prog w = r at h
 cases r with
 | ok x w1 => simp only [Result.andThen_ok, Result.ok.injEq, Value.bool.injEq] at h; obtain ⟨rfl, rfl⟩ := h; rfl
 | halt x w1 => cases h
@[go_sem high] theorem eqIn_pv (a b : Pen) (w : World) : (Op.equalIn 10000 54 (.agg (pv a)) (.agg (pv b))).run Tryd.prog w = .ok (decide (a = b)) w := by
 have h := eql_pen a.fk a.fi a.fr a.fg a.fb a.bk a.bi a.br a.bg a.bb a.fl b.fk b.fi b.fr b.fg b.fb b.bk b.bi b.br b.bg b.bb b.fl w
 rw [run_eql_struct] at h
 change ((Op.equalIn 10000 54 (.agg (pv a)) (.agg (pv b))).run Tryd.prog w).andThen _ = _ at h
 generalize (Op.equalIn 10000 54 (.agg (pv a)) (.agg (pv b))).run Tryd.prog w = r at h
 cases r with
 | ok x w1 => simp only [Result.andThen_ok, Result.ok.injEq, Value.bool.injEq] at h; obtain ⟨rfl, rfl⟩ := h; rfl
 | halt x w1 => cases h
attribute [go_sem high] eqIn_arr3_top

theorem idx3_0 (a0 a1 a2 : Int) (w : World) : (Instr.index 69 (.agg #[.int .i32 a0, .int .i32 a1, .int .i32 a2]) (.int .i64 0)).run Tryd.prog w = .ok (.int .i32 a0) w := by kernel_rfl
theorem idx3_1 (a0 a1 a2 : Int) (w : World) : (Instr.index 69 (.agg #[.int .i32 a0, .int .i32 a1, .int .i32 a2]) (.int .i64 1)).run Tryd.prog w = .ok (.int .i32 a1) w := by kernel_rfl
theorem idx3_2 (a0 a1 a2 : Int) (w : World) : (Instr.index 69 (.agg #[.int .i32 a0, .int .i32 a1, .int .i32 a2]) (.int .i64 2)).run Tryd.prog w = .ok (.int .i32 a2) w := by kernel_rfl
attribute [go_sem] idx3_0 idx3_1 idx3_2

def Blk (w : World) (g : Nat) (t : TypeId) (cs : Array Value) : Prop := w.heap[g]? = some (.cells cs t (0, 0))
section
variable {w w' : World} {g : Nat} {t : TypeId} {cs : Array Value}
theorem Blk.lt (h : Blk w g t cs) : g < w.heap.size := by
 rcases Nat.lt_or_ge g w.heap.size with hlt | hge
 ·exact hlt
 ·unfold Blk at h; rw [Array.getElem?_eq_none hge] at h; cases h
theorem Blk.cell (h : Blk w g t cs) (i : Nat) : w.cell? ⟨g, i, none⟩ = cs[i]? := cell_of_row w g i cs t (0, 0) h
theorem Blk.frozen (h : Blk w g t cs) (i : Nat) : w.frozen? ⟨g, i, none⟩ = false := by
 unfold Blk at h
 simp [World.frozen?, h]
theorem Blk.new (w : World) (t : TypeId) (cs : Array Value) : Blk (w.alloc (.cells cs t)) w.heap.size t cs := heap_alloc_new w _
theorem Blk.alloc (h : Blk w g t cs) (o : Obj) : Blk (w.alloc o) g t cs := (Below.heap_alloc w o g h.lt).trans h
theorem Blk.set_ (h : Blk w g t cs) (i : Nat) (u : Value) : Blk (w.setCell ⟨g, i, none⟩ u) g t (cs.setIfInBounds i u) := by
 unfold Blk at h ⊢
 simp [World.setCell, Array.getElem?_modify, h]
theorem Blk.far (h : Blk w g t cs) {p : Addr} (hp : g ≠ p.block) (u : Value) : Blk (w.setCell p u) g t cs := (Below.heap_setCell w p u g hp).trans h
theorem Blk.below {B : Nat} (h : Blk w g t cs) (hb : Below B w w') (hg : g < B) : Blk w' g t cs := (hb.block g hg).trans h
theorem Blk.bel (h : Blk w g t cs) (hb : Below w.heap.size w w') : Blk w' g t cs := h.below hb h.lt
theorem Blk.grown {row : Option Nat} (h : Blk w g t cs) (hb : w.grownBy w' row) (hg : some g ≠ row) : Blk w' g t cs := (hb.block g h.lt hg).trans h
theorem Blk.row (h : Blk w g t cs) (ds : Array Value) : Blk (w.setRow g ds) g t ds := setRow_heap w g cs ds t (0, 0) h
theorem Blk.range (h : Blk w g t cs) : w.rangeAt g 0 cs.toList := fun j v hv => by rw [Nat.zero_add, h.cell]; simpa using hv
theorem Blk.cellAt {c : Cell} (h : Blk w g t (cv c)) : cellAt w g 0 = some c := cellAt_of h.range
theorem Blk.penAt {p : Pen} (h : Blk w g t (pv p)) : penAt w g 0 = some p := penAt_of h.range
theorem Blk.penAt5 {c : Cell} (h : Blk w g t (cv c)) : Proofs.YtppijfjigcoifaaDoor.penAt w g 5 = some c.pen := penAt_of_cell h.cellAt
theorem Blk.box {c : Cell} (h : Blk w g t (cv c)) : (∀ i, w.cell? ⟨g, i, none⟩ = (cv c)[i]?) ∧ (∀ i, w.frozen? ⟨g, i, none⟩ = false) ∧ g < w.heap.size ∧ Proofs.YtppijfjigcoifaaDoor.cellAt w g 0 = some c ∧ Proofs.YtppijfjigcoifaaDoor.penAt w g 5 = some c.pen := ⟨h.cell, h.frozen, h.lt, h.cellAt, h.penAt5⟩
theorem Blk.pbox {p : Pen} (h : Blk w g t (pv p)) : (∀ i, w.cell? ⟨g, i, none⟩ = (pv p)[i]?) ∧ (∀ i, w.frozen? ⟨g, i, none⟩ = false) ∧ g < w.heap.size ∧ Proofs.YtppijfjigcoifaaDoor.penAt w g 0 = some p := ⟨h.cell, h.frozen, h.lt, h.penAt⟩
theorem Blk.facts (h : Blk w g t cs) : (∀ i, w.cell? ⟨g, i, none⟩ = cs[i]?) ∧ (∀ i, w.frozen? ⟨g, i, none⟩ = false) ∧ g < w.heap.size := ⟨h.cell, h.frozen, h.lt⟩
end
theorem store_cv_row (w : World) (g : Nat) (zs : Array Value) (c : Cell) (h : Blk w g 71 zs) (hz : zs.size = 16) :
  (storeCells ⟨g, 0, none⟩ (cv c).toList 0).run Tryd.prog w = .ok () (w.setRow g (cv c)) := by
 have := run_storeVar_row (P := Tryd.prog) w g 71 71 zs (cv c) h (by rw [cell_size]; rfl) (by rw [hz]; rfl) (cv_all c)
 cases hq : Tryd.prog.info? 71 with
 | none => have := cell_size; simp [hq] at this
 | some i =>
  have hs : 16 = i.size := by have := cell_size; simp [hq] at this; omega
  simpa [storeVar, sizeOf, typeInfo, hq, Value.cells, ← hs, cv_size] using this
theorem beq_no {a b : Int} (h : ¬ a = b) : (a == b) = false := by simpa using h
theorem bne_yes {a b : Int} (h : ¬ a = b) : (a != b) = true := by simpa using h
theorem beq_yes {a b : Int} (h : a = b) : (a == b) = true := by simpa using h
theorem bne_no {a b : Int} (h : a = b) : (a != b) = false := by simpa using h
end Go.Proofs.YtppijfjigcoifaaDoor

namespace Go.Proofs.YtppijfjigcoifaaDoor
open Go.RowKit

def blank (p : Pen) : Cell := ⟨0, 0, 0, 0, 1, p⟩
def spacer (p : Pen) : Cell := ⟨0, 0, 0, 0, 0, p⟩
def Cell.mark (c : Cell) : Nat → Int
 | 0 => c.m0
 | 1 => c.m1
 | _ => c.m2
def Cell.mOk (c : Cell) : Nat → Bool
 | 0 => decide (c.m0 = 0) || decide (wOf c.m0 = 0)
 | 1 => decide (c.m1 = 0) || (decide (wOf c.m1 = 0) && !decide (c.m0 = 0))
 | _ => decide (c.m2 = 0) || (decide (wOf c.m2 = 0) && !decide (c.m1 = 0))
def Cell.marksOk (c : Cell) : Bool := c.mOk 0 && c.mOk 1 && c.mOk 2
def Cell.noMarks (c : Cell) : Bool := decide ((c.m0, c.m1, c.m2) = (0, 0, 0))
def Cell.ok (c : Cell) : Bool := c.pen.ok && (if c.rune = 0 then (decide (c.width = 0) || decide (c.width = 1)) && c.noMarks else c.marksOk && (decide (0 < c.width) && decide (c.width = wOf c.rune)))

theorem cellBlank_any (p : Pen) (w : World) : Calls Tryd.prog 78 #[.agg (pv p)] w fun e w' => e = .returned (.agg (cv (blank p))) ∧ Below w.heap.size w w' := by
 go_enter Tryd.func78, Tryd.ntmps78
 go_wp2
 exact bodyPost_ret (results_cell_row Tryd.results78 _ _ (w.heap.size + 1) 71 (cv (blank p)) (0, 0) _ rfl (heap_alloc2_new w _ _) Tryd.underlying71 rfl cell_size) rfl ⟨rfl, ((Below.refl _ _).alloc (Nat.le_refl _) _).alloc (by simp) _⟩
theorem cellSpacer_any (p : Pen) (w : World) : Calls Tryd.prog 74 #[.agg (pv p)] w fun e w' => e = .returned (.agg (cv (spacer p))) ∧ Below w.heap.size w w' := by
 go_enter Tryd.func74, Tryd.ntmps74
 go_wp2
 exact bodyPost_ret (results_cell_row Tryd.results74 _ _ (w.heap.size + 1) 71 (cv (spacer p)) (0, 0) _ rfl (heap_alloc2_new w _ _) Tryd.underlying71 rfl cell_size) rfl ⟨rfl, ((Below.refl _ _).alloc (Nat.le_refl _) _).alloc (by simp) _⟩
theorem box_call {w w2 : World} {c : Array Value} {t : TypeId} {B : Nat} (hb : Below B (w.alloc (.cells c t)) w2) (hB : w.heap.size < B) : Blk w2 w.heap.size t c ∧ Below w.heap.size w w2 :=
 ⟨(Blk.new w t c).below hb hB, ((Below.refl _ _).alloc (Nat.le_refl _) _).trans (hb.mono (by omega))⟩
theorem cellWritten_any (c : Cell) (w : World) : Calls Tryd.prog 79 #[.agg (cv c)] w fun e w' => e = .returned (.bool (!decide (c.rune = 0))) ∧ Below w.heap.size w w' := by
 go_enter Tryd.func79, Tryd.ntmps79
 go_wp2
 go_ret
 exact ⟨by simp; rfl, (Below.refl _ _).alloc (Nat.le_refl _) _⟩

theorem penv_yes {p : Pen} (w : World) (h : p.ok = true) : Calls Tryd.prog 92 #[.agg (pv p)] w fun e w' => e = .returned (.bool true) ∧ Below w.heap.size w w' := pen_yes w h
theorem penv_no {p : Pen} (w : World) (h : p.ok = false) : Calls Tryd.prog 92 #[.agg (pv p)] w fun e w' => e = .returned (.bool false) ∧ Below w.heap.size w w' := pen_no w h
theorem width_is {r n : Int} (h : wOf r = n) (w : World) (ht : Tabs w) : Calls Tryd.prog 32 #[.int .i32 r] w fun e w' => e = .returned (.int .i64 n) ∧ Below w.heap.size w w' := h ▸ widthOf_any r w ht

set_option maxHeartbeats 1000000 in
theorem cellValid0 (c : Cell) (w : World) (hp : c.pen.ok = false) : Calls Tryd.prog 72 #[.agg (cv c)] w fun e w' => e = .returned (.bool c.ok) ∧ Below w.heap.size w w' := by
 have HO := Lib.hid (show c.ok = false by simp [Cell.ok, hp])
 have HC := Lib.hid (fun w => penv_no w hp)
 clear hp
 go_enter Tryd.func72, Tryd.ntmps72
 go_wp2_with fail
 refine (HC.out _).mono ?_
 rintro e w1 ⟨rfl, hb⟩
 obtain ⟨hk, hb1⟩ := box_call hb (by simp)
 obtain ⟨hx, hf, hz, hca, hpa⟩ := hk.box
 clear hb hk
 go_wp2_with fail
 go_ret
 exact ⟨by rw [HO.out]; rfl, hb1⟩
set_option maxHeartbeats 1000000 in
theorem cellValid1 (c : Cell) (w : World) (hp : c.pen.ok = true) (hr : c.rune = 0) : Calls Tryd.prog 72 #[.agg (cv c)] w fun e w' => e = .returned (.bool c.ok) ∧ Below w.heap.size w w' := by
 have HO := Lib.hid (show c.ok = ((decide (c.width = 0) || decide (c.width = 1)) && c.noMarks) by simp [Cell.ok, hp, hr])
 have HC := Lib.hid (fun w => penv_yes w hp)
 have hr' : (c.rune == 0) = true := by simpa using hr
 clear hp hr
 by_cases h0 : c.width = 0
 ·have h0' : (c.width == 0) = true := by simpa using h0
  have H0 := Lib.hid h0
  clear h0
  go_enter Tryd.func72, Tryd.ntmps72
  go_wp2_with fail
  refine (HC.out _).mono ?_
  rintro e w1 ⟨rfl, hb⟩
  obtain ⟨hk, hb1⟩ := box_call hb (by simp)
  obtain ⟨hx, hf, hz, hca, hpa⟩ := hk.box
  clear hb hk
  go_wp2_with fail
  go_ret
  exact ⟨by rw [HO.out]; simp [H0.out, Cell.noMarks], hb1⟩
 ·have h0' := beq_no h0
  have H0 := Lib.hid h0
  clear h0
  by_cases h1 : c.width = 1
  ·have h1' : (c.width == 1) = true := by simpa using h1
   have H1 := Lib.hid h1
   clear h1
   go_enter Tryd.func72, Tryd.ntmps72
   go_wp2_with fail
   refine (HC.out _).mono ?_
   rintro e w1 ⟨rfl, hb⟩
   obtain ⟨hk, hb1⟩ := box_call hb (by simp)
   obtain ⟨hx, hf, hz, hca, hpa⟩ := hk.box
   clear hb hk
   go_wp2_with fail
   go_ret
   exact ⟨by rw [HO.out]; simp [H1.out, Cell.noMarks], hb1⟩
  ·have h1' := beq_no h1
   have H1 := Lib.hid h1
   clear h1
   go_enter Tryd.func72, Tryd.ntmps72
   go_wp2_with fail
   refine (HC.out _).mono ?_
   rintro e w1 ⟨rfl, hb⟩
   obtain ⟨hk, hb1⟩ := box_call hb (by simp)
   obtain ⟨hx, hf, hz, hca, hpa⟩ := hk.box
   clear hb hk
   go_wp2_with fail
   go_ret
   exact ⟨by rw [HO.out]; simp [H0.out, H1.out], hb1⟩

set_option maxRecDepth 100000 in
set_option maxHeartbeats 4000000 in
theorem cellValid2 (c : Cell) (w : World) (ht : Tabs w) (hp : c.pen.ok = true) (hr : ¬ c.rune = 0) : Calls Tryd.prog 72 #[.agg (cv c)] w fun e w' => e = .returned (.bool c.ok) ∧ Below w.heap.size w w' := by
 have HT := Lib.hid ht
 have HO := Lib.hid (show c.ok = (c.marksOk && (decide (0 < c.width) && decide (c.width = wOf c.rune))) by simp [Cell.ok, hp, hr])
 have HC := Lib.hid (fun w => penv_yes w hp)
 have hr' := beq_no hr
 clear hp hr ht
 go_enter Tryd.func72, Tryd.ntmps72
 go_wp2_with fail
 refine (HC.out _).mono ?_
 rintro e w1 ⟨rfl, hb⟩
 obtain ⟨hk, hb1⟩ := box_call hb (by simp)
 have HB := Lib.hid hb1
 have HX := Lib.hid hk
 obtain ⟨hx, hf, hz, hca, hpa⟩ := hk.box
 clear hb hb1 hk
 go_wp2_with fail
 clear hx hz hf hca hpa
 go_loopw [28] (fun i wr => ∃ k : Nat, k ≤ 3 ∧ i = .int .i64 k ∧ (∀ j, j < k → c.mOk j = true) ∧ Blk wr w.heap.size 71 (cv c) ∧ Below w.heap.size w wr) (fun i _ => 3 - (intOf i).toNat)
 case atStart => exact ⟨0, by omega, rfl, fun j hj => by omega, HX.out, HB.out⟩
 case round =>
  clear HB HX
  obtain ⟨k, hk, rfl, hl, hx, hb⟩ := hrel
  have HL := Lib.hid hl
  have HB := Lib.hid hb
  have HX := Lib.hid hx
  obtain ⟨hx1, hf, hz, hca, hpa⟩ := hx.box
  clear hl hb hx
  have hk4 : k = 0 ∨ k = 1 ∨ k = 2 ∨ k = 3 := by omega
  clear hk
  rcases hk4 with rfl | rfl | rfl | rfl
  -- rounds
  ·-- mark 0
   by_cases hm : c.m0 = 0
   ·have hm' : (c.m0 != 0) = false := by simpa using hm
    have HK := Lib.hid (show c.mOk 0 = true by simp [Cell.mOk, hm])
    clear hm
    go_wp2_with fail
    go_roundw
    case rel => exact ⟨1, by omega, rfl, upto_succ HL.out HK.out, HX.out, HB.out⟩
    case measure => simp [intOf]
   have hm' := bne_yes hm
   by_cases hw : wOf c.m0 = 0
   ·have hw' : (wOf c.m0 != 0) = false := by simpa using hw
    have HK := Lib.hid (show c.mOk 0 = true by simp [Cell.mOk, hm, hw])
    clear hm hw
    go_wp2_with fail
    refine (widthOf_any _ _ (HT.out.bel HB.out)).mono ?_
    rintro e w3 ⟨rfl, hb3⟩
    obtain ⟨hx3, hf3, hz3, hca3, hpa3⟩ := (HX.out.bel hb3).box
    go_wp2_with fail
    go_roundw
    case rel => exact ⟨1, by omega, rfl, upto_succ HL.out HK.out, HX.out.bel hb3, HB.out.trans (hb3.mono HB.out.size)⟩
    case measure => simp [intOf]
   ·have hw' := bne_yes hw
    have HK := Lib.hid (show c.marksOk = false by simp [Cell.marksOk, Cell.mOk, hm, hw])
    clear hm hw
    go_wp2_with fail
    refine (widthOf_any _ _ (HT.out.bel HB.out)).mono ?_
    rintro e w3 ⟨rfl, hb3⟩
    obtain ⟨hx3, hf3, hz3, hca3, hpa3⟩ := (HX.out.bel hb3).box
    go_wp2_with fail
    go_ret
    exact ⟨by rw [HO.out, HK.out]; rfl, HB.out.trans (hb3.mono HB.out.size)⟩
  ·-- mark 1
   by_cases hm : c.m1 = 0
   ·have hm' : (c.m1 != 0) = false := by simpa using hm
    have HK := Lib.hid (show c.mOk 1 = true by simp [Cell.mOk, hm])
    clear hm
    go_wp2_with fail
    go_roundw
    case rel => exact ⟨2, by omega, rfl, upto_succ HL.out HK.out, HX.out, HB.out⟩
    case measure => simp [intOf]
   have hm' := bne_yes hm
   by_cases hw : wOf c.m1 = 0
   ·have hw' : (wOf c.m1 != 0) = false := by simpa using hw
    by_cases hq : c.m0 = 0
    ·have hq' : (c.m0 == 0) = true := by simpa using hq
     have HK := Lib.hid (show c.marksOk = false by simp [Cell.marksOk, Cell.mOk, hm, hw, hq])
     clear hm hw
     go_wp2_with fail
     refine (widthOf_any _ _ (HT.out.bel HB.out)).mono ?_
     rintro e w3 ⟨rfl, hb3⟩
     obtain ⟨hx3, hf3, hz3, hca3, hpa3⟩ := (HX.out.bel hb3).box
     go_wp2_with fail
     go_ret
     exact ⟨by rw [HO.out, HK.out]; rfl, HB.out.trans (hb3.mono HB.out.size)⟩
    ·have hq' := beq_no hq
     have HK := Lib.hid (show c.mOk 1 = true by simp [Cell.mOk, hm, hw, hq])
     clear hm hw
     go_wp2_with fail
     refine (widthOf_any _ _ (HT.out.bel HB.out)).mono ?_
     rintro e w3 ⟨rfl, hb3⟩
     obtain ⟨hx3, hf3, hz3, hca3, hpa3⟩ := (HX.out.bel hb3).box
     go_wp2_with fail
     go_roundw
     case rel => exact ⟨2, by omega, rfl, upto_succ HL.out HK.out, HX.out.bel hb3, HB.out.trans (hb3.mono HB.out.size)⟩
     case measure => simp [intOf]
   ·have hw' := bne_yes hw
    have HK := Lib.hid (show c.marksOk = false by simp [Cell.marksOk, Cell.mOk, hm, hw])
    clear hm hw
    go_wp2_with fail
    refine (widthOf_any _ _ (HT.out.bel HB.out)).mono ?_
    rintro e w3 ⟨rfl, hb3⟩
    obtain ⟨hx3, hf3, hz3, hca3, hpa3⟩ := (HX.out.bel hb3).box
    go_wp2_with fail
    go_ret
    exact ⟨by rw [HO.out, HK.out]; rfl, HB.out.trans (hb3.mono HB.out.size)⟩
  ·-- mark 2
   by_cases hm : c.m2 = 0
   ·have hm' : (c.m2 != 0) = false := by simpa using hm
    have HK := Lib.hid (show c.mOk 2 = true by simp [Cell.mOk, hm])
    clear hm
    go_wp2_with fail
    go_roundw
    case rel => exact ⟨3, by omega, rfl, upto_succ HL.out HK.out, HX.out, HB.out⟩
    case measure => simp [intOf]
   have hm' := bne_yes hm
   by_cases hw : wOf c.m2 = 0
   ·have hw' : (wOf c.m2 != 0) = false := by simpa using hw
    by_cases hq : c.m1 = 0
    ·have hq' : (c.m1 == 0) = true := by simpa using hq
     have HK := Lib.hid (show c.marksOk = false by simp [Cell.marksOk, Cell.mOk, hm, hw, hq])
     clear hm hw
     go_wp2_with fail
     refine (widthOf_any _ _ (HT.out.bel HB.out)).mono ?_
     rintro e w3 ⟨rfl, hb3⟩
     obtain ⟨hx3, hf3, hz3, hca3, hpa3⟩ := (HX.out.bel hb3).box
     go_wp2_with fail
     go_ret
     exact ⟨by rw [HO.out, HK.out]; rfl, HB.out.trans (hb3.mono HB.out.size)⟩
    ·have hq' := beq_no hq
     have HK := Lib.hid (show c.mOk 2 = true by simp [Cell.mOk, hm, hw, hq])
     clear hm hw
     go_wp2_with fail
     refine (widthOf_any _ _ (HT.out.bel HB.out)).mono ?_
     rintro e w3 ⟨rfl, hb3⟩
     obtain ⟨hx3, hf3, hz3, hca3, hpa3⟩ := (HX.out.bel hb3).box
     go_wp2_with fail
     go_roundw
     case rel => exact ⟨3, by omega, rfl, upto_succ HL.out HK.out, HX.out.bel hb3, HB.out.trans (hb3.mono HB.out.size)⟩
     case measure => simp [intOf]
   ·have hw' := bne_yes hw
    have HK := Lib.hid (show c.marksOk = false by simp [Cell.marksOk, Cell.mOk, hm, hw])
    clear hm hw
    go_wp2_with fail
    refine (widthOf_any _ _ (HT.out.bel HB.out)).mono ?_
    rintro e w3 ⟨rfl, hb3⟩
    obtain ⟨hx3, hf3, hz3, hca3, hpa3⟩ := (HX.out.bel hb3).box
    go_wp2_with fail
    go_ret
    exact ⟨by rw [HO.out, HK.out]; rfl, HB.out.trans (hb3.mono HB.out.size)⟩
  -- end of rounds
  ·have HM := Lib.hid (show c.marksOk = true by simp [Cell.marksOk, HL.out 0 (by omega), HL.out 1 (by omega), HL.out 2 (by omega)])
   by_cases hw : 0 < c.width
   ·go_wp2_with fail
    refine wp_region_below (by kernel_rfl) (by kernel_rfl) ?_
    repeat (go_big_quiet_step ((go_at_call 32; exact quiet_below (widthOf_any _ _ ((HT.out.bel HB.out).bel (below_plus _ _))))))
    refine wpQuiet_nil ?_
    intro w2 hb2
    go_wp2_with fail
    go_ret
    exact ⟨by rw [HO.out, HM.out]; simp [hw]; rfl, HB.out.trans (hb2.mono HB.out.size)⟩
   ·have hw' : decide (0 < c.width) = false := by simpa using hw
    go_wp2_with fail
    refine wp_region_below (by kernel_rfl) (by kernel_rfl) ?_
    repeat (go_big_quiet_step (fail))
    refine wpQuiet_nil ?_
    intro w2 hb2
    go_wp2_with fail
    go_ret
    exact ⟨by rw [HO.out, HM.out, hw']; rfl, HB.out.trans (hb2.mono HB.out.size)⟩

theorem cellValid_any (c : Cell) (w : World) (ht : Tabs w) : Calls Tryd.prog 72 #[.agg (cv c)] w fun e w' => e = .returned (.bool c.ok) ∧ Below w.heap.size w w' := by
 cases hp : c.pen.ok
 ·exact cellValid0 c w hp
 ·by_cases hr : c.rune = 0
  ·exact cellValid1 c w hp hr
  ·exact cellValid2 c w ht hp hr
end Go.Proofs.YtppijfjigcoifaaDoor

namespace Go.Proofs.YtppijfjigcoifaaDoor
open Go.RowKit

def Cell.nMarks (c : Cell) : Int := if c.m0 = 0 then 0 else if c.m1 = 0 then 1 else if c.m2 = 0 then 2 else 3
theorem wOf_zero : wOf 0 = -1 := by decide +kernel
theorem wOf_cases (r : Int) : wOf r = -1 ∨ wOf r = 0 ∨ wOf r = 1 ∨ wOf r = 2 := by
 unfold wOf
 by_cases h1 : unprinted r = true
 ·simp [h1]
 ·by_cases h2 : inTab marksTab r = true
  ·simp [h1, h2]
  ·by_cases h3 : inTab wideTab r = true <;> simp [h1, h2, h3]
end Go.Proofs.YtppijfjigcoifaaDoor

namespace Go.Proofs.YtppijfjigcoifaaDoor
open Go.RowKit

def markOf (c : Cell) (r : Int) : Cell × Int :=
 if c.ok = false ∨ ¬ wOf r = 0 then (cell0, 2) else if c.rune = 0 then (cell0, 8) else if c.m0 = 0 then ({ c with m0 := r }, 0) else if c.m1 = 0 then ({ c with m1 := r }, 0) else if c.m2 = 0 then ({ c with m2 := r }, 0) else (cell0, 7)

theorem results_ct {fn : Func} {p t : Tmp} {ty tt : TypeId} {P : Program} (h : fn.results = #[.cell p ty, .tmp t]) (tmps : Array Value) (w : World) (g : Nat) (cs : Array Value) (d : TypeDesc)
  (hp : tmps.getD p undef = .pointer (some ⟨g, 0, none⟩)) (hg : Blk w g tt cs)
  (hu : P.underlying ty = some d) (hd : d.isRow = true) (hi : (P.info? ty).map (·.size) = some cs.size) :
  (results fn tmps).run P w = .ok (.tuple #[.agg cs, tmps.getD t undef]) w := by
 have hp' : tmps[p]?.getD undef = .pointer (some ⟨g, 0, none⟩) := by simpa using hp
 simp [results, h, hp', asAddr, run_loadVar_mid w g 0 ty cs.toList d hg.range hu hd (by simpa using hi)]

theorem box_call2 {w w2 : World} {c d : Array Value} {t u : TypeId} {B : Nat} (hb : Below B ((w.alloc (.cells c t)).alloc (.cells d u)) w2) (hB : w.heap.size + 1 < B) : Blk w2 w.heap.size t c ∧ Blk w2 (w.heap.size + 1) u d ∧ Below w.heap.size w w2 :=
 ⟨((Blk.new w t c).alloc _).below hb (by omega), (show Blk ((w.alloc (.cells c t)).alloc (.cells d u)) (w.heap.size + 1) u d from heap_alloc2_new w _ _).below hb hB, (((Below.refl _ _).alloc (Nat.le_refl _) _).alloc (by simp) _).trans (hb.mono (by omega))⟩
theorem valid_yes {c : Cell} (h : c.ok = true) (w : World) (ht : Tabs w) : Calls Tryd.prog 72 #[.agg (cv c)] w fun e w' => e = .returned (.bool true) ∧ Below w.heap.size w w' := h ▸ cellValid_any c w ht
theorem valid_no {c : Cell} (h : c.ok = false) (w : World) (ht : Tabs w) : Calls Tryd.prog 72 #[.agg (cv c)] w fun e w' => e = .returned (.bool false) ∧ Below w.heap.size w w' := h ▸ cellValid_any c w ht
theorem Blk.put {w : World} {g : Nat} {d : Cell} (h : Blk w g 71 (cv d)) (c : Cell) : (storeCells ⟨g, 0, none⟩ (cv c).toList 0).run Tryd.prog w = .ok () (w.setRow g (cv c)) := store_cv_row w g _ c h (cv_size d)
theorem below_row {w0 w : World} {g : Nat} (h : Below w0.heap.size w0 w) (hg : w0.heap.size ≤ g) (cs : Array Value) : Below w0.heap.size w0 (w.setRow g cs) :=
 h.trans ⟨rfl, rfl, rfl, by simp, fun k hk => setRow_other w g k cs (by omega)⟩
def MarkEnd (c : Cell) (r : Int) (w : World) (e : Ending) (w' : World) : Prop := e = .returned (.tuple #[.agg (cv (markOf c r).1), .int .i64 (markOf c r).2]) ∧ Below w.heap.size w w'

set_option maxRecDepth 100000 in
set_option maxHeartbeats 4000000 in
theorem cellMark_any (c : Cell) (r : Int) (w : World) (ht : Tabs w) : Calls Tryd.prog 69 #[.agg (cv c), .int .i32 r] w (MarkEnd c r w) := by
 have HT := Lib.hid ht
 clear ht
 cases hv : c.ok
 ·have HV := Lib.hid hv
  have HO := Lib.hid (show markOf c r = (cell0, 2) by simp [markOf, hv])
  clear hv
  go_enter Tryd.func69, Tryd.ntmps69
  go_wp2_with fail
  refine (valid_no HV.out _ (HT.out.bel (((Below.refl _ _).alloc (Nat.le_refl _) _).alloc (by simp) _))).mono ?_
  rintro e w1 ⟨rfl, hb⟩
  obtain ⟨k0, k1, hb1⟩ := box_call2 hb (by simp)
  have K0 := Lib.hid k0
  have K1 := Lib.hid k1
  have HB := Lib.hid hb1
  obtain ⟨hx0, hf0, hz0, hca0, hpa0⟩ := k0.box
  have hz1 := k1.lt
  have hst := k1.put
  clear hb hb1 k0 k1
  go_wp2_with fail
  refine bodyPost_ret (results_ct Tryd.results69 _ _ (w.heap.size + 1) (cv cell0) _ rfl (K1.out.row _) Tryd.underlying71 rfl cell_size) rfl ?_
  exact ⟨by rw [HO.out]; rfl, below_row HB.out (by omega) _⟩
 have HV := Lib.hid hv
 by_cases hw : wOf r = 0
 case neg =>
  have hw' := bne_yes hw
  have HO := Lib.hid (show markOf c r = (cell0, 2) by simp [markOf, hw])
  clear hv hw
  go_enter Tryd.func69, Tryd.ntmps69
  go_wp2_with fail
  refine (valid_yes HV.out _ (HT.out.bel (((Below.refl _ _).alloc (Nat.le_refl _) _).alloc (by simp) _))).mono ?_
  rintro e w1 ⟨rfl, hb⟩
  obtain ⟨k0, k1, hb1⟩ := box_call2 hb (by simp)
  have K0 := Lib.hid k0
  have K1 := Lib.hid k1
  have HB := Lib.hid hb1
  obtain ⟨hx0, hf0, hz0, hca0, hpa0⟩ := k0.box
  have hz1 := k1.lt
  have hst := k1.put
  clear hb hb1 k0 k1
  go_wp2_with fail
  clear hx0 hf0 hz0 hca0 hpa0 hz1 hst
  refine (widthOf_any _ _ (HT.out.bel HB.out)).mono ?_
  rintro e w2 ⟨rfl, hb2⟩
  have K0 := Lib.hid (K0.out.bel hb2)
  have K1 := Lib.hid (K1.out.bel hb2)
  have HB := Lib.hid (HB.out.trans (hb2.mono HB.out.size))
  obtain ⟨hx0, hf0, hz0, hca0, hpa0⟩ := K0.out.box
  have hz1 := K1.out.lt
  have hst := K1.out.put
  clear hb2
  go_wp2_with fail
  refine bodyPost_ret (results_ct Tryd.results69 _ _ (w.heap.size + 1) (cv cell0) _ rfl (K1.out.row _) Tryd.underlying71 rfl cell_size) rfl ?_
  exact ⟨by rw [HO.out]; rfl, below_row HB.out (by omega) _⟩
 have hw' := bne_no hw
 by_cases hr : c.rune = 0
 ·have hr' := beq_yes hr
  have hrd : (!decide (c.rune = 0)) = false := by simp [hr]
  have HO := Lib.hid (show markOf c r = (cell0, 8) by simp [markOf, hv, hw, hr])
  clear hv hw hr
  go_enter Tryd.func69, Tryd.ntmps69
  go_wp2_with fail
  refine (valid_yes HV.out _ (HT.out.bel (((Below.refl _ _).alloc (Nat.le_refl _) _).alloc (by simp) _))).mono ?_
  rintro e w1 ⟨rfl, hb⟩
  obtain ⟨k0, k1, hb1⟩ := box_call2 hb (by simp)
  have K0 := Lib.hid k0
  have K1 := Lib.hid k1
  have HB := Lib.hid hb1
  obtain ⟨hx0, hf0, hz0, hca0, hpa0⟩ := k0.box
  have hz1 := k1.lt
  have hst := k1.put
  clear hb hb1 k0 k1
  go_wp2_with fail
  clear hx0 hf0 hz0 hca0 hpa0 hz1 hst
  refine (widthOf_any _ _ (HT.out.bel HB.out)).mono ?_
  rintro e w2 ⟨rfl, hb2⟩
  have K0 := Lib.hid (K0.out.bel hb2)
  have K1 := Lib.hid (K1.out.bel hb2)
  have HB := Lib.hid (HB.out.trans (hb2.mono HB.out.size))
  obtain ⟨hx0, hf0, hz0, hca0, hpa0⟩ := K0.out.box
  have hz1 := K1.out.lt
  have hst := K1.out.put
  clear hb2
  go_wp2_with fail
  clear hx0 hf0 hz0 hca0 hpa0 hz1 hst
  refine (cellWritten_any _ _).mono ?_
  rintro e w3 ⟨rfl, hb3⟩
  have K0 := Lib.hid (K0.out.bel hb3)
  have K1 := Lib.hid (K1.out.bel hb3)
  have HB := Lib.hid (HB.out.trans (hb3.mono HB.out.size))
  obtain ⟨hx0, hf0, hz0, hca0, hpa0⟩ := K0.out.box
  have hz1 := K1.out.lt
  have hst := K1.out.put
  clear hb3
  obtain ⟨w2, rfl⟩ : ∃ w2 : World, w2 = w3 := ⟨_, rfl⟩
  rw [hrd]
  go_wp2_with fail
  refine bodyPost_ret (results_ct Tryd.results69 _ _ (w.heap.size + 1) (cv cell0) _ rfl (K1.out.row _) Tryd.underlying71 rfl cell_size) rfl ?_
  exact ⟨by rw [HO.out]; rfl, below_row HB.out (by omega) _⟩
 have hr' := beq_no hr
 have hrd : (!decide (c.rune = 0)) = true := by simp [hr]
 have hmo : c.marksOk = true := by have := hv; simp only [Cell.ok, hr, if_false, Bool.and_eq_true] at this; exact this.2.1
 have HMO := Lib.hid hmo
 clear hmo
 by_cases h0 : c.m0 = 0
 case pos =>
  have HO := Lib.hid (show markOf c r = ({ c with m0 := r }, 0) by simp [markOf, hv, hw, hr, h0])
  have HNM := Lib.hid (show c.nMarks = 0 by simp [Cell.nMarks, h0])
  have hb0_ := beq_yes h0
  clear hv hw hr h0
  have HK := Lib.hid hb0_
  clear hb0_
  go_enter Tryd.func69, Tryd.ntmps69
  go_wp2_with fail
  refine (valid_yes HV.out _ (HT.out.bel (((Below.refl _ _).alloc (Nat.le_refl _) _).alloc (by simp) _))).mono ?_
  rintro e w1 ⟨rfl, hb⟩
  obtain ⟨k0, k1, hb1⟩ := box_call2 hb (by simp)
  have K0 := Lib.hid k0
  have K1 := Lib.hid k1
  have HB := Lib.hid hb1
  obtain ⟨hx0, hf0, hz0, hca0, hpa0⟩ := k0.box
  have hz1 := k1.lt
  have hst := k1.put
  clear hb hb1 k0 k1
  go_wp2_with fail
  clear hx0 hf0 hz0 hca0 hpa0 hz1 hst
  refine (widthOf_any _ _ (HT.out.bel HB.out)).mono ?_
  rintro e w2 ⟨rfl, hb2⟩
  have K0 := Lib.hid (K0.out.bel hb2)
  have K1 := Lib.hid (K1.out.bel hb2)
  have HB := Lib.hid (HB.out.trans (hb2.mono HB.out.size))
  obtain ⟨hx0, hf0, hz0, hca0, hpa0⟩ := K0.out.box
  have hz1 := K1.out.lt
  have hst := K1.out.put
  clear hb2
  go_wp2_with fail
  clear hx0 hf0 hz0 hca0 hpa0 hz1 hst
  refine (cellWritten_any _ _).mono ?_
  rintro e w3 ⟨rfl, hb3⟩
  have K0 := Lib.hid (K0.out.bel hb3)
  have K1 := Lib.hid (K1.out.bel hb3)
  have HB := Lib.hid (HB.out.trans (hb3.mono HB.out.size))
  obtain ⟨hx0, hf0, hz0, hca0, hpa0⟩ := K0.out.box
  have hz1 := K1.out.lt
  have hst := K1.out.put
  clear hb3
  obtain ⟨w2, rfl⟩ : ∃ w2 : World, w2 = w3 := ⟨_, rfl⟩
  rw [hrd]
  have KS := Lib.hid (K0.out.set_ 1 (.int .i32 r))
  have KT := Lib.hid (K1.out.far (p := ⟨w.heap.size, 1, none⟩) (by simp) (.int .i32 r))
  have hca' : cellAt (w2.setCell ⟨w.heap.size, 1, none⟩ (.int .i32 r)) w.heap.size 0 = some { c with m0 := r } := Blk.cellAt (t := 71) (by have := KS.out; rwa [cv_set1] at this)
  have hst' := KT.out.put
  go_wp2_with fail
  go_loop [25] (fun i => ∃ j : Nat, j ≤ 0 ∧ i = .int .i64 j) (fun i => 3 - (intOf i).toNat)
  case atStart => exact ⟨0, by omega, rfl⟩
  case round =>
   obtain ⟨j, hj, rfl⟩ := hrel
   have hj4 : j = 0 := by omega
   clear hj
   rcases hj4 with rfl
   ·have hb0_ := HK.out
    go_wp2_with fail
    refine bodyPost_ret (results_ct Tryd.results69 _ _ (w.heap.size + 1) (cv { c with m0 := r }) _ rfl (KT.out.row _) Tryd.underlying71 rfl cell_size) rfl ?_
    exact ⟨by rw [HO.out]; rfl, below_row (HB.out.setCell (p := ⟨w.heap.size, 1, none⟩) (Nat.le_refl _) _) (by omega) _⟩
 by_cases h1 : c.m1 = 0
 case pos =>
  have HO := Lib.hid (show markOf c r = ({ c with m1 := r }, 0) by simp [markOf, hv, hw, hr, h0, h1])
  have HNM := Lib.hid (show c.nMarks = 1 by simp [Cell.nMarks, h0, h1])
  have hb0_ := beq_no h0
  have hb1_ := beq_yes h1
  clear hv hw hr h0 h1
  have HK := Lib.hid hb1_
  clear hb1_
  go_enter Tryd.func69, Tryd.ntmps69
  go_wp2_with fail
  refine (valid_yes HV.out _ (HT.out.bel (((Below.refl _ _).alloc (Nat.le_refl _) _).alloc (by simp) _))).mono ?_
  rintro e w1 ⟨rfl, hb⟩
  obtain ⟨k0, k1, hb1⟩ := box_call2 hb (by simp)
  have K0 := Lib.hid k0
  have K1 := Lib.hid k1
  have HB := Lib.hid hb1
  obtain ⟨hx0, hf0, hz0, hca0, hpa0⟩ := k0.box
  have hz1 := k1.lt
  have hst := k1.put
  clear hb hb1 k0 k1
  go_wp2_with fail
  clear hx0 hf0 hz0 hca0 hpa0 hz1 hst
  refine (widthOf_any _ _ (HT.out.bel HB.out)).mono ?_
  rintro e w2 ⟨rfl, hb2⟩
  have K0 := Lib.hid (K0.out.bel hb2)
  have K1 := Lib.hid (K1.out.bel hb2)
  have HB := Lib.hid (HB.out.trans (hb2.mono HB.out.size))
  obtain ⟨hx0, hf0, hz0, hca0, hpa0⟩ := K0.out.box
  have hz1 := K1.out.lt
  have hst := K1.out.put
  clear hb2
  go_wp2_with fail
  clear hx0 hf0 hz0 hca0 hpa0 hz1 hst
  refine (cellWritten_any _ _).mono ?_
  rintro e w3 ⟨rfl, hb3⟩
  have K0 := Lib.hid (K0.out.bel hb3)
  have K1 := Lib.hid (K1.out.bel hb3)
  have HB := Lib.hid (HB.out.trans (hb3.mono HB.out.size))
  obtain ⟨hx0, hf0, hz0, hca0, hpa0⟩ := K0.out.box
  have hz1 := K1.out.lt
  have hst := K1.out.put
  clear hb3
  obtain ⟨w2, rfl⟩ : ∃ w2 : World, w2 = w3 := ⟨_, rfl⟩
  rw [hrd]
  have KS := Lib.hid (K0.out.set_ 2 (.int .i32 r))
  have KT := Lib.hid (K1.out.far (p := ⟨w.heap.size, 2, none⟩) (by simp) (.int .i32 r))
  have hca' : cellAt (w2.setCell ⟨w.heap.size, 2, none⟩ (.int .i32 r)) w.heap.size 0 = some { c with m1 := r } := Blk.cellAt (t := 71) (by have := KS.out; rwa [cv_set2] at this)
  have hst' := KT.out.put
  go_wp2_with fail
  go_loop [25] (fun i => ∃ j : Nat, j ≤ 1 ∧ i = .int .i64 j) (fun i => 3 - (intOf i).toNat)
  case atStart => exact ⟨0, by omega, rfl⟩
  case round =>
   obtain ⟨j, hj, rfl⟩ := hrel
   have hj4 : j = 0 ∨ j = 1 := by omega
   clear hj
   rcases hj4 with rfl | rfl
   ·go_wp2_with fail
    go_round
    case rel => exact ⟨1, by omega, rfl⟩
    case measure => simp [intOf]
   ·have hb1_ := HK.out
    go_wp2_with fail
    refine bodyPost_ret (results_ct Tryd.results69 _ _ (w.heap.size + 1) (cv { c with m1 := r }) _ rfl (KT.out.row _) Tryd.underlying71 rfl cell_size) rfl ?_
    exact ⟨by rw [HO.out]; rfl, below_row (HB.out.setCell (p := ⟨w.heap.size, 2, none⟩) (Nat.le_refl _) _) (by omega) _⟩
 by_cases h2 : c.m2 = 0
 case pos =>
  have HO := Lib.hid (show markOf c r = ({ c with m2 := r }, 0) by simp [markOf, hv, hw, hr, h0, h1, h2])
  have HNM := Lib.hid (show c.nMarks = 2 by simp [Cell.nMarks, h0, h1, h2])
  have hb0_ := beq_no h0
  have hb1_ := beq_no h1
  have hb2_ := beq_yes h2
  clear hv hw hr h0 h1 h2
  have HK := Lib.hid hb2_
  clear hb2_
  go_enter Tryd.func69, Tryd.ntmps69
  go_wp2_with fail
  refine (valid_yes HV.out _ (HT.out.bel (((Below.refl _ _).alloc (Nat.le_refl _) _).alloc (by simp) _))).mono ?_
  rintro e w1 ⟨rfl, hb⟩
  obtain ⟨k0, k1, hb1⟩ := box_call2 hb (by simp)
  have K0 := Lib.hid k0
  have K1 := Lib.hid k1
  have HB := Lib.hid hb1
  obtain ⟨hx0, hf0, hz0, hca0, hpa0⟩ := k0.box
  have hz1 := k1.lt
  have hst := k1.put
  clear hb hb1 k0 k1
  go_wp2_with fail
  clear hx0 hf0 hz0 hca0 hpa0 hz1 hst
  refine (widthOf_any _ _ (HT.out.bel HB.out)).mono ?_
  rintro e w2 ⟨rfl, hb2⟩
  have K0 := Lib.hid (K0.out.bel hb2)
  have K1 := Lib.hid (K1.out.bel hb2)
  have HB := Lib.hid (HB.out.trans (hb2.mono HB.out.size))
  obtain ⟨hx0, hf0, hz0, hca0, hpa0⟩ := K0.out.box
  have hz1 := K1.out.lt
  have hst := K1.out.put
  clear hb2
  go_wp2_with fail
  clear hx0 hf0 hz0 hca0 hpa0 hz1 hst
  refine (cellWritten_any _ _).mono ?_
  rintro e w3 ⟨rfl, hb3⟩
  have K0 := Lib.hid (K0.out.bel hb3)
  have K1 := Lib.hid (K1.out.bel hb3)
  have HB := Lib.hid (HB.out.trans (hb3.mono HB.out.size))
  obtain ⟨hx0, hf0, hz0, hca0, hpa0⟩ := K0.out.box
  have hz1 := K1.out.lt
  have hst := K1.out.put
  clear hb3
  obtain ⟨w2, rfl⟩ : ∃ w2 : World, w2 = w3 := ⟨_, rfl⟩
  rw [hrd]
  have KS := Lib.hid (K0.out.set_ 3 (.int .i32 r))
  have KT := Lib.hid (K1.out.far (p := ⟨w.heap.size, 3, none⟩) (by simp) (.int .i32 r))
  have hca' : cellAt (w2.setCell ⟨w.heap.size, 3, none⟩ (.int .i32 r)) w.heap.size 0 = some { c with m2 := r } := Blk.cellAt (t := 71) (by have := KS.out; rwa [cv_set3] at this)
  have hst' := KT.out.put
  go_wp2_with fail
  go_loop [25] (fun i => ∃ j : Nat, j ≤ 2 ∧ i = .int .i64 j) (fun i => 3 - (intOf i).toNat)
  case atStart => exact ⟨0, by omega, rfl⟩
  case round =>
   obtain ⟨j, hj, rfl⟩ := hrel
   have hj4 : j = 0 ∨ j = 1 ∨ j = 2 := by omega
   clear hj
   rcases hj4 with rfl | rfl | rfl
   ·go_wp2_with fail
    go_round
    case rel => exact ⟨1, by omega, rfl⟩
    case measure => simp [intOf]
   ·go_wp2_with fail
    go_round
    case rel => exact ⟨2, by omega, rfl⟩
    case measure => simp [intOf]
   ·have hb2_ := HK.out
    go_wp2_with fail
    refine bodyPost_ret (results_ct Tryd.results69 _ _ (w.heap.size + 1) (cv { c with m2 := r }) _ rfl (KT.out.row _) Tryd.underlying71 rfl cell_size) rfl ?_
    exact ⟨by rw [HO.out]; rfl, below_row (HB.out.setCell (p := ⟨w.heap.size, 3, none⟩) (Nat.le_refl _) _) (by omega) _⟩
 have HO := Lib.hid (show markOf c r = (cell0, 7) by simp [markOf, hv, hw, hr, h0, h1, h2])
 have HNM := Lib.hid (show c.nMarks = 3 by simp [Cell.nMarks, h0, h1, h2])
 have hb0_ := beq_no h0
 have hb1_ := beq_no h1
 have hb2_ := beq_no h2
 clear hv hw hr h0 h1 h2
 go_enter Tryd.func69, Tryd.ntmps69
 go_wp2_with fail
 refine (valid_yes HV.out _ (HT.out.bel (((Below.refl _ _).alloc (Nat.le_refl _) _).alloc (by simp) _))).mono ?_
 rintro e w1 ⟨rfl, hb⟩
 obtain ⟨k0, k1, hb1⟩ := box_call2 hb (by simp)
 have K0 := Lib.hid k0
 have K1 := Lib.hid k1
 have HB := Lib.hid hb1
 obtain ⟨hx0, hf0, hz0, hca0, hpa0⟩ := k0.box
 have hz1 := k1.lt
 have hst := k1.put
 clear hb hb1 k0 k1
 go_wp2_with fail
 clear hx0 hf0 hz0 hca0 hpa0 hz1 hst
 refine (widthOf_any _ _ (HT.out.bel HB.out)).mono ?_
 rintro e w2 ⟨rfl, hb2⟩
 have K0 := Lib.hid (K0.out.bel hb2)
 have K1 := Lib.hid (K1.out.bel hb2)
 have HB := Lib.hid (HB.out.trans (hb2.mono HB.out.size))
 obtain ⟨hx0, hf0, hz0, hca0, hpa0⟩ := K0.out.box
 have hz1 := K1.out.lt
 have hst := K1.out.put
 clear hb2
 go_wp2_with fail
 clear hx0 hf0 hz0 hca0 hpa0 hz1 hst
 refine (cellWritten_any _ _).mono ?_
 rintro e w3 ⟨rfl, hb3⟩
 have K0 := Lib.hid (K0.out.bel hb3)
 have K1 := Lib.hid (K1.out.bel hb3)
 have HB := Lib.hid (HB.out.trans (hb3.mono HB.out.size))
 obtain ⟨hx0, hf0, hz0, hca0, hpa0⟩ := K0.out.box
 have hz1 := K1.out.lt
 have hst := K1.out.put
 clear hb3
 obtain ⟨w2, rfl⟩ : ∃ w2 : World, w2 = w3 := ⟨_, rfl⟩
 rw [hrd]
 go_wp2_with fail
 go_loop [25] (fun i => ∃ j : Nat, j ≤ 3 ∧ i = .int .i64 j) (fun i => 3 - (intOf i).toNat)
 case atStart => exact ⟨0, by omega, rfl⟩
 case round =>
  obtain ⟨j, hj, rfl⟩ := hrel
  have hj4 : j = 0 ∨ j = 1 ∨ j = 2 ∨ j = 3 := by omega
  clear hj
  rcases hj4 with rfl | rfl | rfl | rfl
  ·go_wp2_with fail
   go_round
   case rel => exact ⟨1, by omega, rfl⟩
   case measure => simp [intOf]
  ·go_wp2_with fail
   go_round
   case rel => exact ⟨2, by omega, rfl⟩
   case measure => simp [intOf]
  ·go_wp2_with fail
   go_round
   case rel => exact ⟨3, by omega, rfl⟩
   case measure => simp [intOf]
  ·skip
   go_wp2_with fail
   refine bodyPost_ret (results_ct Tryd.results69 _ _ (w.heap.size + 1) (cv cell0) _ rfl (K1.out.row _) Tryd.underlying71 rfl cell_size) rfl ?_
   exact ⟨by rw [HO.out]; rfl, below_row HB.out (by omega) _⟩

end Go.Proofs.YtppijfjigcoifaaDoor

namespace Go.Proofs.YtppijfjigcoifaaDoor
open Go.RowKit

def flat (cs : List Cell) : List Value := cs.flatMap fun c => (cv c).toList
theorem flat_cons (c : Cell) (cs : List Cell) : flat (c :: cs) = (cv c).toList ++ flat cs := by simp [flat]
theorem flat_append (a b : List Cell) : flat (a ++ b) = flat a ++ flat b := by simp [flat]
theorem flat_length (cs : List Cell) : (flat cs).length = cs.length * 16 := by
 induction cs with
 | nil => rfl
 | cons c cs ih => rw [flat_cons, List.length_append, ih]; simp [cv_size]; omega
theorem flat_one (cs : List Cell) : ∀ v ∈ flat cs, v.oneCell' = true := by
 intro v hv
 obtain ⟨c, _, hc⟩ := List.mem_flatMap.1 hv
 exact cv_one c v hc
theorem flat_at (cs : List Cell) (k j : Nat) (c : Cell) (h : cs[k]? = some c) (hj : j < 16) : (flat cs)[k * 16 + j]? = (cv c)[j]? := by
 induction cs generalizing k with
 | nil => simp at h
 | cons d cs ih =>
  rw [flat_cons]
  cases k with
  | zero =>
   simp at h
   subst h
   rw [List.getElem?_append_left (by simp [cv_size]; omega)]
   simp
  | succ k =>
   rw [List.getElem?_append_right (by simp [cv_size]; omega)]
   simp only [Array.length_toList, cv_size]
   rw [show (k + 1) * 16 + j - 16 = k * 16 + j by omega]
   exact ih k (by simpa using h)
def RdC (w : World) (A : Option Addr) (c : Nat) (cs : List Cell) : Prop := cs.length ≤ c ∧ (A = none → c = 0) ∧ (0 < cs.length → ∃ b off, A = some ⟨b, off, none⟩ ∧ b < w.heap.size ∧ w.rangeAt b off (flat cs))
section
variable {w w' : World} {A : Option Addr} {c : Nat} {cs : List Cell}
theorem RdC.keep (h : RdC w A c cs) (hz : w.heap.size ≤ w'.heap.size) (hk : ∀ b i, b < w.heap.size → w'.cell? ⟨b, i, none⟩ = w.cell? ⟨b, i, none⟩) : RdC w' A c cs := ⟨h.1, h.2.1, fun hn => by
 obtain ⟨b, off, e, hb, hr⟩ := h.2.2 hn
 exact ⟨b, off, e, by omega, (rangeAt_same (fun i => hk b i hb)).2 hr⟩⟩
theorem RdC.bel (h : RdC w A c cs) (hb : Below w.heap.size w w') : RdC w' A c cs := h.keep hb.size fun b i hp => hb.cell (p := ⟨b, i, none⟩) hp
theorem RdC.alloc (h : RdC w A c cs) (o : Obj) : RdC (w.alloc o) A c cs := h.keep (by simp) fun b i hb => World.cell?_alloc_lt w o ⟨b, i, none⟩ hb
theorem RdC.nil (w : World) : RdC w none 0 [] := ⟨by simp, fun _ => rfl, fun h => by simp at h⟩
theorem RdC.empty (w : World) (ad : Addr) (c : Nat) : RdC w (some ad) c [] := ⟨by simp, (fun h => by cases h), fun h => by simp at h⟩
theorem range_elem {b off : Nat} (hr : w.rangeAt b off (flat cs)) {k : Nat} (hk : k < cs.length) : w.rangeAt b (off + k * 16) (cv cs[k]).toList := fun j v hv => by
 have hj : j < 16 := by have := (List.getElem?_eq_some_iff.1 hv).1; simpa [cv_size] using this
 have := hr (k * 16 + j) v (by rw [flat_at cs k j cs[k] (by simp [hk]) hj, ← hv]; simp)
 rw [show off + k * 16 + j = off + (k * 16 + j) by omega]; exact this
theorem RdC.at_ (h : RdC w A c cs) {k : Nat} (hk : k < cs.length) : ∃ b off, A = some ⟨b, off, none⟩ ∧ b < w.heap.size ∧ w.rangeAt b off (flat cs) := h.2.2 (by omega)
theorem elem_cell {b off : Nat} (hr : w.rangeAt b off (flat cs)) {k : Nat} (hk : k < cs.length) : cellAt w b (off + k * 16) = some cs[k] := cellAt_of (range_elem hr hk)
theorem elem_pen {b off : Nat} (hr : w.rangeAt b off (flat cs)) {k : Nat} (hk : k < cs.length) : penAt w b (off + k * 16 + 5) = some cs[k].pen := penAt_of_cell (elem_cell hr hk)
theorem elem_width {b off : Nat} (hr : w.rangeAt b off (flat cs)) {k : Nat} (hk : k < cs.length) : w.cell? ⟨b, off + k * 16 + 4, none⟩ = some (.int .i64 cs[k].width) := range_elem hr hk 4 _ (by simp)
theorem RdC.drop {b off : Nat} (hr : w.rangeAt b off (flat cs)) (k : Nat) : w.rangeAt b (off + k * 16) (flat (cs.drop k)) := fun j v hv => by
 rcases Nat.lt_or_ge k cs.length with hk | hk
 ·have h1 : flat cs = flat (cs.take k) ++ flat (cs.drop k) := by rw [← flat_append, List.take_append_drop]
  have := hr (k * 16 + j) v (by rw [h1, List.getElem?_append_right (by rw [flat_length]; simp; omega), flat_length]; simp [Nat.min_eq_left (Nat.le_of_lt hk), hv])
  rw [show off + k * 16 + j = off + (k * 16 + j) by omega]; exact this
 ·rw [List.drop_eq_nil_of_le hk] at hv; simp [flat] at hv
theorem RdC.take {b off : Nat} (hr : w.rangeAt b off (flat cs)) (k : Nat) : w.rangeAt b off (flat (cs.take k)) := fun j v hv => by
 have h1 : flat cs = flat (cs.take k) ++ flat (cs.drop k) := by rw [← flat_append, List.take_append_drop]
 have hj : j < (flat (cs.take k)).length := (List.getElem?_eq_some_iff.1 hv).1
 exact hr j v (by rw [h1, List.getElem?_append_left hj, hv])
end

def OwnC (w : World) (B : Nat) (v : Value) (cs : List Cell) : Prop := w.ownsRow B 71 16 v cs.length (flat cs)
section
variable {w w' : World} {B : Nat} {v : Value} {cs : List Cell}
theorem OwnC.nil (w : World) (B : Nat) : OwnC w B (.slice none 0 0) [] := ⟨by simp [flat], .inl ⟨rfl, rfl⟩⟩
theorem OwnC.alloc (h : OwnC w B v cs) (o : Obj) : OwnC (w.alloc o) B v cs := World.ownsRow.alloc h o
theorem OwnC.kept {row : Option Nat} (h : OwnC w B v cs) (hg : w.grownBy w' row) (hne : v.ownBlock = none ∨ v.ownBlock ≠ row) : OwnC w' B v cs := World.ownsRow.kept h hg hne
theorem only_of_below {a w : World} (h : Below a.heap.size a w) (row : Option Nat) : a.grownBy w row := ⟨h.os, h.tape, h.output, h.size, fun i hi _ => h.block i hi⟩
theorem OwnC.bel (h : OwnC w B v cs) (hb : Below w.heap.size w w') : OwnC w' B v cs := by
 rcases hv : v.ownBlock with _ | g
 ·exact World.ownsRow.kept h (only_of_below hb none) (.inl hv)
 ·exact World.ownsRow.kept h (only_of_below hb none) (.inr (by rw [hv]; simp))
theorem OwnC.form (h : OwnC w B v cs) : ∃ A c, v = .slice A cs.length c ∧ RdC w A c cs := by
 rcases h.2 with ⟨rfl, h0⟩ | ⟨g, cap, cur, rfl, hb, hg, hnc, hm, hsz, htk⟩
 ·have : cs = [] := List.eq_nil_of_length_eq_zero h0
  subst this
  exact ⟨none, 0, rfl, RdC.nil _⟩
 ·refine ⟨_, cap, rfl, hnc, (fun h => by cases h), fun hn => ⟨g, 0, rfl, ?_, fun j u hu => ?_⟩⟩
  ·exact (show Blk w g 71 cur from hg).lt
  ·rw [Nat.zero_add, (show Blk w g 71 cur from hg).cell]
   rw [← htk, List.getElem?_take] at hu
   split at hu
   ·simpa using hu
   ·cases hu
theorem OwnC.one (w : World) (c : Cell) (hB : B ≤ w.heap.size) : OwnC (w.alloc (.cells (cv c) 71)) B (.slice (some ⟨w.heap.size, 0, none⟩) 1 1) [c] :=
 ⟨by simp [flat, cv_size], .inr ⟨w.heap.size, 1, cv c, rfl, hB, heap_alloc_new w _, Nat.le_refl _, by simp [maxLen], by simp [cv_size], by simp [flat, cv_size, List.take_of_length_le]⟩⟩
end
theorem cell_info : (Tryd.prog.info? 71).map (fun i => (i.zero, i.size, i.bytes)) = some (some (.agg (cv cell0)), 16, 64) := by kernel_rfl

theorem wpList_appC {ops : Array Oper} {rest : List Oper} {o : Oper} {a : Act} {w : World} {Q : Exit → Act → World → Prop} (hgd : o.guard = none) (s x : Operand)
  (ho : o.op = .call { callee := .builtin .append, args := #[s, x], argTypes := #[37, 37] })
  (B : Nat) (v : Value) (cs : List Cell) (hs : a.eval s = v) (hown : OwnC w B v cs)
  (A : Option Addr) (c : Nat) (ds : List Cell) (hx : a.eval x = .slice A ds.length c) (hr : RdC w A c ds)
  (hlen : cs.length + ds.length ≤ 1000000) (hbase : B ≤ w.heap.size)
  (h : ∀ v' w', OwnC w' B v' (cs ++ ds) → w.grownBy w' v.ownBlock → (v'.ownBlock = v.ownBlock ∨ v'.ownBlock = some w.heap.size) → wpList Tryd.prog ops Q rest (a.put o.dst v') w') : wpList Tryd.prog ops Q (o :: rest) a w := by
 obtain ⟨i, hi, hz0, hz1, hz2⟩ := info_parts cell_info
 obtain ⟨h1, h2, h3⟩ := hr
 cases A with
 | none =>
  obtain rfl := h2 rfl
  obtain rfl : ds = [] := List.eq_nil_of_length_eq_zero (by omega)
  refine wpList_append_own_none hgd s x 37 ho B 71 i 16 Tryd.underlying37 hi v cs.length (flat cs) hs hown hx ?_
  exact h v w (by simpa using hown) (World.grownBy.refl w _) (.inl rfl)
 | some ad =>
  refine wpList_append_own_at w hgd s x 37 ho B 71 i _ 16 64 Tryd.underlying37 hi hz0 hz1 hz2 (by simp [Value.cells, cv_size]) (by omega) v cs.length (flat cs) hs hown ad ds.length c (flat ds) hx (flat_length ds) ?_ (flat_one ds)
   (by simp only [maxLen]; omega) (by omega) hbase fun v' w' g1 g2 _ g4 => h v' w' ?_ g2 g4
  ·intro j u hu
   have hj : j < ds.length * 16 := by have := (List.getElem?_eq_some_iff.1 hu).1; rwa [flat_length] at this
   obtain ⟨b, off, e, _, hr⟩ := h3 (by omega)
   cases e
   rw [add_at]; exact hr j u hu
  ·unfold OwnC
   rw [flat_append, List.length_append]
   exact g1
end Go.Proofs.YtppijfjigcoifaaDoor

namespace Go.Proofs.YtppijfjigcoifaaDoor
open Go.RowKit

structure Sq (S : Nat → Prop) where
 is : Value → World → Prop
 stab : ∀ v w1 w2, is v w1 → Chg S w1 w2 → is v w2
def Sq.val {S : Nat → Prop} (v : Value) : Sq S := ⟨fun u _ => u = v, fun _ _ _ h _ => h⟩
theorem RdC.chg {S : Nat → Prop} {w w' : World} {A : Option Addr} {c : Nat} {cs : List Cell} (h : RdC w A c cs) (hb : Chg S w w') (hA : ∀ ad, A = some ad → ¬ S ad.block) : RdC w' A c cs := ⟨h.1, h.2.1, fun hn => by
 obtain ⟨b, off, e, hlt, hr⟩ := h.2.2 hn
 exact ⟨b, off, e, by have := hb.size; omega, (rangeAt_same (fun i => hb.cell (p := ⟨b, i, none⟩) hlt (show ¬ S b from hA ⟨b, off, none⟩ e))).2 hr⟩⟩
theorem own_chg {S : Nat → Prop} {w w' : World} {B k n : Nat} {t : TypeId} {v : Value} {xs : List Value} (h : w.ownsRow B t k v n xs) (hb : Chg S w w') (hv : ∀ b, v.ownBlock = some b → ¬ S b) : w'.ownsRow B t k v n xs := by
 refine ⟨h.1, ?_⟩
 rcases h.2 with h' | ⟨g, cap, cur, rfl, h1, h2, h3⟩
 ·exact .inl h'
 ·refine .inr ⟨g, cap, cur, rfl, h1, ?_, h3⟩
  rw [hb.block g (Array.getElem?_eq_some_iff.1 h2).1 (hv g rfl)]
  exact h2
def Sq.cells {S : Nat → Prop} (cs : List Cell) : Sq S :=
 ⟨fun u w => ∃ A c, u = .slice A cs.length c ∧ RdC w A c cs ∧ ∀ ad, A = some ad → ¬ S ad.block, fun _ _ _ ⟨A, c, h1, h2, h3⟩ hb => ⟨A, c, h1, h2.chg hb h3, h3⟩⟩
def Sq.own {S : Nat → Prop} (B : Nat) (cs : List Cell) : Sq S :=
 ⟨fun u w => OwnC w B u cs ∧ ∀ b, u.ownBlock = some b → ¬ S b, fun _ _ _ ⟨h1, h2⟩ hb => ⟨own_chg h1 hb h2, h2⟩⟩
def sqOf {S : Nat → Prop} (l : List (Sq S)) (i : Nat) : Sq S := l.getD i (Sq.val undef)
section
variable {P : Program} {Q : Exit → Act → World → Prop} {a0 : Act} {w0 : World} {S : Nat → Prop}
def ΦOne (specs : List (Sq S)) (m : Nat) (Φm : Value → World → Prop) (i : Nat) : Value → World → Prop := if i = m then Φm else (sqOf specs i).is
def ROne (S : Nat → Prop) (m : Nat) (i : Nat) : World → World → Prop := if i = m then Chg S else fun w w2 => Below w.heap.size w w2
def ΨOne (Ψ : World → Prop) (m : Nat) (i : Nat) : World → Prop := if i = m then Ψ else fun _ => True
theorem wp_region_one {id : Nat} {l : List Oper} (hm : P.follows .mixedOrders = true) (hg : growOk l.toArray = true) (hsz : l.toArray.all (fun o => o.dst.all (fun d => decide (d < a0.tmps.size))) = true)
  (S : Nat → Prop) (specs : List (Sq S)) (m : Nat) (Φm : Value → World → Prop) (Ψ : World → Prop) (hΨ0 : Ψ w0.drew)
  (hΨ : ∀ w1 w2, Ψ w1 → Below w1.heap.size w1 w2 → Ψ w2) (hΦ : ∀ v w1 w2, Φm v w1 → Below w1.heap.size w1 w2 → Φm v w2)
  (hstep : RSteps P l.toArray (fun _ => none) Q (ΦOne specs m Φm) (Chg S w0) (ΨOne Ψ m) (ROne S m) a0 0 l)
  (hQ : ∀ (vs : Nat → Value) w, Chg S w0 w → (∀ (i : Nat), i < l.length → i ≠ m → (sqOf specs i).is (vs i) w) → (m < l.length → Φm (vs m) w) → Q .normal (putL vs 0 l a0) w) : (Code.region id l.toArray true).wp P Q a0 w0 := by
 have hc : ∀ i w1 w2, ROne S m i w1 w2 → Chg S w1 w2 := fun i w1 w2 h => by
  unfold ROne at h
  split at h
  ·exact h
  ·exact Chg.of_below h S
 have hn : ∀ i w1 w2, i ≠ m → ROne S m i w1 w2 → Below w1.heap.size w1 w2 := fun i w1 w2 hi h => by
  unfold ROne at h
  rw [if_neg hi] at h
  exact h
 refine wp_region_regs (tk := fun _ => none) (fun i k h => by cases h) hm hg hsz (Chg.refl _ _).drew (fun i hi => ?_) (fun i j w1 w2 hij _ h1 h2 => ?_) (fun i w1 w2 h1 h2 => h1.trans (hc i w1 w2 h2) (fun _ _ h => h)) (fun i j v w1 w2 hij _ _ _ h1 h2 => ?_) hstep (fun vs w hj h => hQ vs w hj (fun i hi hne => ?_) (fun hi => ?_))
 ·unfold ΨOne
  split
  ·exact hΨ0
  ·trivial
 ·unfold ΨOne at h1 ⊢
  split at h1
  ·rename_i h
   rw [if_pos h]
   exact hΨ w1 w2 h1 (hn j w1 w2 (fun e => hij (h.trans e.symm)) h2)
  ·rename_i h
   rw [if_neg h]
   trivial
 ·unfold ΦOne at h1 ⊢
  split at h1
  ·rename_i h
   rw [if_pos h]
   exact hΦ v w1 w2 h1 (hn j w1 w2 (fun e => hij (h.trans e.symm)) h2)
  ·rename_i h
   rw [if_neg h]
   exact (sqOf specs i).stab v w1 w2 h1 (hc j w1 w2 h2)
 ·have := h i hi rfl
  unfold ΦOne at this
  rw [if_neg hne] at this
  exact this
 ·have := h m hi rfl
  unfold ΦOne at this
  rw [if_pos rfl] at this
  exact this
structure Sr where
 is : Value → World → Prop
 stab : ∀ v w1 w2, is v w1 → Below w1.heap.size w1 w2 → is v w2
def Sr.val (v : Value) : Sr := ⟨fun u _ => u = v, fun _ _ _ h _ => h⟩
def Sr.own (B : Nat) (cs : List Cell) : Sr := ⟨fun u w => OwnC w B u cs, fun _ _ _ h hb => h.bel hb⟩
variable {ops : Array Oper} {o : Oper} {a : Act} {w w2 : World} {v : Value}
theorem ro_pure {Φ : Value → World → Prop} {R : World → World → Prop} (hw : Region.wanted o (yielded ops a.tmps) = true) (hr : (execOp a.eval o).run P w = .ok (.value v) w) (hv : Φ v w) (hR : R w w) : RStep P ops Q Φ R o a w := rstep_value hw hr hv hR
end
end Go.Proofs.YtppijfjigcoifaaDoor

namespace Go.Proofs.YtppijfjigcoifaaDoor
open Go.RowKit

abbrev Ln := List Cell × Bool
structure GenOb where
 P : World → (Nat → Prop) → Prop
 chg : ∀ {S F : Nat → Prop} {w w' : World}, P w F → Chg S w w' → (∀ b, F b → ¬ S b) → P w' F
 lt : ∀ {F : Nat → Prop} {w : World} {b : Nat}, P w F → F b → b < w.heap.size
inductive Ob where
 | none
 | box (g : Nat) (t : TypeId) (cs : Array Value)
 | cells (v : Value) (cs : List Cell)
 | lines (v : Value) (L : List Ln)
 | linesx (v : Value) (L : List Ln) (i : Nat) (b : Value)
 | grid (p : Nat) (t : TypeId) (cols : Int) (L : List Ln)
 | heads (v : Value) (hp : List (Value × Bool))
 | pile (ps : List (Value × List Cell))
 | gen (G : GenOb)

def flat2 (hp : List (Value × Bool)) : List Value := hp.flatMap fun x => [x.1, .bool x.2]
def hdrs (bs : List Value) (L : List Ln) : List Value := (bs.zip L).flatMap fun x => [x.1, .bool x.2.2]
theorem hdrs_cons (b : Value) (bs : List Value) (l : Ln) (L : List Ln) : hdrs (b :: bs) (l :: L) = b :: .bool l.2 :: hdrs bs L := rfl
theorem hdrs_append {b1 b2 : List Value} {L1 L2 : List Ln} (h : b1.length = L1.length) : hdrs (b1 ++ b2) (L1 ++ L2) = hdrs b1 L1 ++ hdrs b2 L2 := by
 unfold hdrs; rw [List.zip_append h, List.flatMap_append]
theorem hdrs_at0 {bs : List Value} {L : List Ln} (h : bs.length = L.length) (k : Nat) : (hdrs bs L)[k * 2]? = bs[k]? := by
 induction bs generalizing L k with
 | nil => cases L with | nil => simp [hdrs] | cons l L => simp at h
 | cons b bs ih => cases L with
  | nil => simp at h
  | cons l L =>
   rw [hdrs_cons]
   cases k with
   | zero => rfl
   | succ k => rw [show (k + 1) * 2 = k * 2 + 1 + 1 by omega]; simp [ih (by simpa using h)]
theorem hdrs_at1 {bs : List Value} {L : List Ln} (h : bs.length = L.length) (k : Nat) : (hdrs bs L)[k * 2 + 1]? = (L[k]?).map (fun l => .bool l.2) := by
 induction bs generalizing L k with
 | nil => cases L with | nil => simp [hdrs] | cons l L => simp at h
 | cons b bs ih => cases L with
  | nil => simp at h
  | cons l L =>
   rw [hdrs_cons]
   cases k with
   | zero => rfl
   | succ k => rw [show (k + 1) * 2 + 1 = k * 2 + 1 + 1 + 1 by omega]; simp [ih (by simpa using h)]
structure LinesAt (w : World) (v : Value) (bs : List Value) (L : List Ln) (m : Option Nat) : Prop where
 len : bs.length = L.length
 own : w.ownsRow 0 39 2 v L.length (hdrs bs L)
 rows : ∀ (i : Nat) (b : Value) (l : Ln), m ≠ some i → bs[i]? = some b → L[i]? = some l → OwnC w 0 b l.1
 dist : ∀ (i j : Nat) (b c : Value) (g : Nat), bs[i]? = some b → bs[j]? = some c → b.ownBlock = some g → c.ownBlock = some g → i = j
def LF (v : Value) (bs : List Value) (m : Option Nat) (b : Nat) : Prop := v.ownBlock = some b ∨ ∃ (i : Nat) (x : Value), m ≠ some i ∧ bs[i]? = some x ∧ x.ownBlock = some b

section
variable {S : Nat → Prop} {w w' : World} {v : Value} {bs : List Value} {L : List Ln} {m : Option Nat}
theorem OwnC.chg {B : Nat} {cs : List Cell} (h : OwnC w B v cs) (hb : Chg S w w') (hv : ∀ b, v.ownBlock = some b → ¬ S b) : OwnC w' B v cs := own_chg h hb hv
theorem LinesAt.row (h : LinesAt w v bs L m) {i : Nat} {b : Value} (hm : m ≠ some i) (hb : bs[i]? = some b) : ∃ l, L[i]? = some l ∧ OwnC w 0 b l.1 := by
 have hi : i < bs.length := (List.getElem?_eq_some_iff.1 hb).1
 exact ⟨L[i]'(by rw [← h.len]; exact hi), by simp [← h.len, hi], h.rows i b _ hm hb (by simp [← h.len, hi])⟩
theorem LinesAt.chg (h : LinesAt w v bs L m) (hb : Chg S w w') (hS : ∀ b, LF v bs m b → ¬ S b) : LinesAt w' v bs L m :=
 ⟨h.len, own_chg h.own hb (fun b e => hS b (.inl e)), fun i b l hm h1 h2 => own_chg (h.rows i b l hm h1 h2) hb (fun g e => hS g (.inr ⟨i, b, hm, h1, e⟩)), h.dist⟩
theorem LinesAt.lt (h : LinesAt w v bs L m) {b : Nat} (hb : LF v bs m b) : b < w.heap.size := by
 rcases hb with e | ⟨i, x, hm, hx, e⟩
 ·exact (World.ownsRow.lt h.own b e).2
 ·obtain ⟨l, hl, ho⟩ := h.row hm hx
  exact (World.ownsRow.lt ho b e).2
theorem own_type {B k n : Nat} {t : TypeId} {xs : List Value} (h : w.ownsRow B t k v n xs) {g : Nat} (hg : v.ownBlock = some g) : ∃ cs, Blk w g t cs := by
 rcases h.2 with ⟨rfl, _⟩ | ⟨g', cap, cur, rfl, _, h2, _⟩
 ·cases hg
 ·cases hg; exact ⟨cur, h2⟩
theorem own_apart {B B' k k' n n' : Nat} {t t' : TypeId} {u : Value} {xs ys : List Value} (ht : t ≠ t') (h : w.ownsRow B t k v n xs) (h' : w.ownsRow B' t' k' u n' ys) {g : Nat} (hv : v.ownBlock = some g) : u.ownBlock ≠ some g := fun e => by
 obtain ⟨c1, h1⟩ := own_type h hv
 obtain ⟨c2, h2⟩ := own_type h' e
 have := h1.symm.trans h2
 simp at this
 exact ht this.2
end

theorem own_low {w : World} {B B' k n : Nat} {t : TypeId} {v : Value} {xs : List Value} (h : w.ownsRow B t k v n xs) (hB : B' ≤ B) : w.ownsRow B' t k v n xs := by
 refine ⟨h.1, ?_⟩
 rcases h.2 with h' | ⟨g, cap, cur, rfl, h1, h2⟩
 ·exact .inl h'
 ·exact .inr ⟨g, cap, cur, rfl, by omega, h2⟩
def Ob.at (w : World) (F : Nat → Prop) : Ob → Prop
 | .none => ∀ b, ¬ F b
 | .box g t cs => Blk w g t cs ∧ ∀ b, F b ↔ b = g
 | .cells v cs => OwnC w 0 v cs ∧ ∀ b, F b ↔ v.ownBlock = some b
 | .lines v L => ∃ bs, LinesAt w v bs L Option.none ∧ ∀ b, F b ↔ LF v bs Option.none b
 | .linesx v L i x => ∃ bs, LinesAt w v bs L (some i) ∧ bs[i]? = some x ∧ ∀ b, F b ↔ LF v bs (some i) b
 | .grid p t cols L => ∃ v bs, Blk w p t #[.int .i64 cols, v] ∧ LinesAt w v bs L Option.none ∧ ¬ LF v bs Option.none p ∧ ∀ b, F b ↔ b = p ∨ LF v bs Option.none b
 | .heads v hp => w.ownsRow 0 39 2 v hp.length (flat2 hp) ∧ ∀ b, F b ↔ v.ownBlock = some b
 | .pile ps => (∀ x ∈ ps, OwnC w 0 x.1 x.2) ∧ ps.Pairwise (fun x y => ∀ g, x.1.ownBlock = some g → y.1.ownBlock ≠ some g) ∧ ∀ b, F b ↔ ∃ x ∈ ps, x.1.ownBlock = some b
 | .gen G => G.P w F
theorem Ob.at.chg {S F : Nat → Prop} {w w' : World} {o : Ob} (h : o.at w F) (hc : Chg S w w') (hS : ∀ b, F b → ¬ S b) : o.at w' F := by
 have hblk : ∀ {g t cs}, Blk w g t cs → ¬ S g → Blk w' g t cs := fun hb hn => (hc.block _ hb.lt hn).trans hb
 cases o with
 | none => exact h
 | box g t cs => exact ⟨hblk h.1 (hS g ((h.2 g).2 rfl)), h.2⟩
 | cells v cs => exact ⟨own_chg h.1 hc (fun b e => hS b ((h.2 b).2 e)), h.2⟩
 | lines v L =>
  obtain ⟨bs, h1, h2⟩ := h
  exact ⟨bs, h1.chg hc (fun b e => hS b ((h2 b).2 e)), h2⟩
 | linesx v L i x =>
  obtain ⟨bs, h1, h3, h2⟩ := h
  exact ⟨bs, h1.chg hc (fun b e => hS b ((h2 b).2 e)), h3, h2⟩
 | grid p t cols L =>
  obtain ⟨v, bs, h0, h1, h2, h3⟩ := h
  exact ⟨v, bs, hblk h0 (hS p ((h3 p).2 (.inl rfl))), h1.chg hc (fun b e => hS b ((h3 b).2 (.inr e))), h2, h3⟩
 | heads v hp => exact ⟨own_chg h.1 hc (fun b e => hS b ((h.2 b).2 e)), h.2⟩
 | pile ps => exact ⟨fun x hx => own_chg (h.1 x hx) hc (fun b e => hS b ((h.2.2 b).2 ⟨x, hx, e⟩)), h.2⟩
 | gen G => exact G.chg h hc hS
theorem Ob.at.lt {F : Nat → Prop} {w : World} {o : Ob} (h : o.at w F) {b : Nat} (hb : F b) : b < w.heap.size := by
 cases o with
 | none => exact (h b hb).elim
 | box g t cs => rw [(h.2 b).1 hb]; exact h.1.lt
 | cells v cs => exact (World.ownsRow.lt h.1 b ((h.2 b).1 hb)).2
 | lines v L =>
  obtain ⟨bs, h1, h2⟩ := h
  exact h1.lt ((h2 b).1 hb)
 | linesx v L i x =>
  obtain ⟨bs, h1, h3, h2⟩ := h
  exact h1.lt ((h2 b).1 hb)
 | grid p t cols L =>
  obtain ⟨v, bs, h0, h1, h2, h3⟩ := h
  rcases (h3 b).1 hb with rfl | e
  ·exact h0.lt
  ·exact h1.lt e
 | heads v hp => exact (World.ownsRow.lt h.1 b ((h.2 b).1 hb)).2
 | pile ps =>
  obtain ⟨x, hx, e⟩ := (h.2.2 b).1 hb
  exact (World.ownsRow.lt (h.1 x hx) b e).2
 | gen G => exact G.lt h hb

structure Objs (w0 w : World) (os : List Ob) : Prop where
 base : Below w0.heap.size w0 w
 ex : ∃ F : Nat → Nat → Prop, (∀ (i : Nat) (o : Ob), os[i]? = some o → o.at w (F i)) ∧ (∀ i b, F i b → w0.heap.size ≤ b) ∧ (∀ i, os.length ≤ i → ∀ b, ¬ F i b) ∧ (∀ i j b, F i b → F j b → i = j)
theorem objs_start (w : World) : Objs w w [] := ⟨Below.refl _ _, fun _ _ => False, fun i o h => by simp at h, fun _ _ h => h.elim, fun _ _ _ h => h, fun _ _ _ h => h.elim⟩

section
variable {w0 w w' : World} {os : List Ob}
theorem Objs.bel (h : Objs w0 w os) (hb : Below w.heap.size w w') : Objs w0 w' os := by
 obtain ⟨h1, F, h2, h3, h4, h5⟩ := h
 exact ⟨h1.trans (hb.mono h1.size), F, fun i o ho => (h2 i o ho).chg (Chg.of_below hb noBlk) (fun _ _ hf => hf), h3, h4, h5⟩
theorem Objs.drew (h : Objs w0 w os) : Objs w0 w.drew os := h.bel ⟨rfl, rfl, rfl, Nat.le_refl _, fun _ _ => rfl⟩
theorem Objs.cons (h : Objs w0 w os) (hb : Below w.heap.size w w') {o : Ob} {G : Nat → Prop} (ho : o.at w' G) (hG : ∀ b, G b → w.heap.size ≤ b) : Objs w0 w' (o :: os) := by
 obtain ⟨h1, F, h2, h3, h4, h5⟩ := h
 have hlt : ∀ i b, F i b → b < w.heap.size := fun i b hF => by
  rcases Nat.lt_or_ge i os.length with hi | hi
  ·exact (h2 i os[i] (by simp [hi])).lt hF
  ·exact (h4 i hi b hF).elim
 refine ⟨h1.trans (hb.mono h1.size), fun i => match i with | 0 => G | i + 1 => F i, fun i o' hi => ?_, fun i b hF => ?_, fun i hi b hF => ?_, fun i j b hi hj => ?_⟩
 ·cases i with
  | zero => simp at hi; subst hi; exact ho
  | succ i => exact (h2 i o' (by simpa using hi)).chg (Chg.of_below hb noBlk) (fun _ _ hf => hf)
 ·cases i with
  | zero => have := hG b hF; have := h1.size; omega
  | succ i => exact h3 i b hF
 ·cases i with
  | zero => simp at hi
  | succ i => exact h4 i (by simpa using hi) b hF
 ·cases i with
  | zero =>
   cases j with
   | zero => rfl
   | succ j => have := hG b hi; have := hlt j b hj; omega
  | succ i =>
   cases j with
   | zero => have := hG b hj; have := hlt i b hi; omega
   | succ j => rw [h5 i j b hi hj]
theorem Objs.tail {o : Ob} (h : Objs w0 w (o :: os)) : Objs w0 w os := by
 obtain ⟨h1, F, h2, h3, h4, h5⟩ := h
 exact ⟨h1, fun i => F (i + 1), fun i o ho => h2 (i + 1) o (by simpa using ho), fun i => h3 (i + 1), fun i hi => h4 (i + 1) (by simpa using hi), fun i j b hi hj => by have := h5 _ _ b hi hj; omega⟩
theorem set_get {os : List Ob} {k i : Nat} {o o' : Ob} (h : (os.set k o')[i]? = some o) : (i = k ∧ o = o' ∧ k < os.length) ∨ (i ≠ k ∧ os[i]? = some o) := by
 rw [List.getElem?_set] at h
 split at h
 ·rename_i hk; subst hk; split at h
  ·exact .inl ⟨rfl, (by simpa using h.symm), by assumption⟩
  ·cases h
 ·rename_i hk; exact .inr ⟨fun e => hk e.symm, h⟩
theorem Objs.upd (h : Objs w0 w os) {k : Nat} {o o' : Ob} (hk : os[k]? = some o)
  (hs : ∀ F : Nat → Prop, o.at w F → ∃ F' : Nat → Prop, Chg F w w' ∧ o'.at w' F' ∧ ∀ b, F' b → F b ∨ w.heap.size ≤ b) : Objs w0 w' (os.set k o') := by
 obtain ⟨h1, F, h2, h3, h4, h5⟩ := h
 obtain ⟨F', hc, ho, hF'⟩ := hs (F k) (h2 k o hk)
 have hkl : k < os.length := (List.getElem?_eq_some_iff.1 hk).1
 have hlt : ∀ i b, F i b → b < w.heap.size := fun i b hF => by
  rcases Nat.lt_or_ge i os.length with hi | hi
  ·exact (h2 i os[i] (by simp [hi])).lt hF
  ·exact (h4 i hi b hF).elim
 refine ⟨h1.trans (hc.below h1.size (fun b hb hf => by have := h3 k b hf; omega)), fun i => if i = k then F' else F i, fun i o2 hi => ?_, fun i b hF => ?_, fun i hi b hF => ?_, fun i j b hi hj => ?_⟩
 ·rcases set_get hi with ⟨rfl, rfl, _⟩ | ⟨hne, hi⟩
  ·simpa using ho
  ·simp only [hne, if_false]
   exact (h2 i o2 hi).chg hc (fun b hb hf => hne (h5 _ _ _ hb hf))
 ·simp only at hF
  split at hF
  ·rcases hF' b hF with hf | hf
   ·exact h3 k b hf
   ·have := h1.size; omega
  ·exact h3 i b hF
 ·simp only at hF
  rw [if_neg (by simp at hi; omega)] at hF
  exact h4 i (by simpa using hi) b hF
 ·simp only at hi hj
  split at hi <;> split at hj
  ·simp_all
  ·rename_i e1 e2
   rcases hF' b hi with hf | hf
   ·exact (e2 (h5 _ _ _ hj hf)).elim
   ·have := hlt j b hj; omega
  ·rename_i e1 e2
   rcases hF' b hj with hf | hf
   ·exact (e1 (h5 _ _ _ hi hf)).elim
   ·have := hlt i b hi; omega
  ·exact h5 _ _ _ hi hj
theorem Objs.join (h : Objs w0 w os) {k j : Nat} {o oj o' oj' : Ob} (hk : os[k]? = some o) (hj : os[j]? = some oj) (hkj : k ≠ j)
  (hs : ∀ F G : Nat → Prop, o.at w F → oj.at w G → (∀ b, F b → ¬ G b) → ∃ F' G' : Nat → Prop, Chg (fun b => F b ∨ G b) w w' ∧ o'.at w' F' ∧ oj'.at w' G' ∧ (∀ b, F' b → ¬ G' b) ∧ (∀ b, F' b → F b ∨ G b ∨ w.heap.size ≤ b) ∧ ∀ b, G' b → F b ∨ G b ∨ w.heap.size ≤ b) : Objs w0 w' ((os.set k o').set j oj') := by
 obtain ⟨h1, F, h2, h3, h4, h5⟩ := h
 obtain ⟨F', G', hc, ho, hoj, hd, hF', hG'⟩ := hs (F k) (F j) (h2 k o hk) (h2 j oj hj) (fun b hb hg => hkj (h5 _ _ _ hb hg))
 have hkl : k < os.length := (List.getElem?_eq_some_iff.1 hk).1
 have hjl : j < os.length := (List.getElem?_eq_some_iff.1 hj).1
 have hlt : ∀ i b, F i b → b < w.heap.size := fun i b hF => by
  rcases Nat.lt_or_ge i os.length with hi | hi
  ·exact (h2 i os[i] (by simp [hi])).lt hF
  ·exact (h4 i hi b hF).elim
 have key : ∀ i b, i ≠ k → i ≠ j → F i b → ¬ (F k b ∨ F j b ∨ w.heap.size ≤ b) := fun i b e1 e2 hi hor => by
  rcases hor with hf | hf | hf
  ·exact e1 (h5 _ _ _ hi hf)
  ·exact e2 (h5 _ _ _ hi hf)
  ·have := hlt i b hi; omega
 refine ⟨h1.trans (hc.below h1.size (fun b hb hf => by rcases hf with hf | hf <;> (have := h3 _ b hf; omega))), fun i => if i = k then F' else if i = j then G' else F i, fun i o2 hi => ?_, fun i b hF => ?_, fun i hi b hF => ?_, fun i i' b hi hi' => ?_⟩
 ·rcases set_get hi with ⟨rfl, rfl, _⟩ | ⟨hne, hi⟩
  ·simp only [if_neg (Ne.symm hkj), if_true]; exact hoj
  ·rcases set_get hi with ⟨rfl, rfl, _⟩ | ⟨hne2, hi⟩
   ·simp only [if_true]; exact ho
   ·simp only [if_neg hne, if_neg hne2]
    exact (h2 i o2 hi).chg hc (fun b hb hf => key i b hne2 hne hb (hf.elim .inl (fun g => .inr (.inl g))))
 ·have big : F k b ∨ F j b ∨ w.heap.size ≤ b → w0.heap.size ≤ b := fun hor => by
   rcases hor with hf | hf | hf
   ·exact h3 _ b hf
   ·exact h3 _ b hf
   ·have := h1.size; omega
  simp only at hF
  split at hF
  ·exact big (hF' b hF)
  ·split at hF
   ·exact big (hG' b hF)
   ·exact h3 i b hF
 ·simp only at hF
  simp only [List.length_set] at hi
  rw [if_neg (by omega), if_neg (by omega)] at hF
  exact h4 i hi b hF
 ·simp only at hi hi'
  by_cases a1 : i = k
  ·subst a1
   rw [if_pos rfl] at hi
   by_cases b1 : i' = i
   ·exact b1.symm
   ·rw [if_neg b1] at hi'
    by_cases b2 : i' = j
    ·rw [if_pos b2] at hi'; exact (hd b hi hi').elim
    ·rw [if_neg b2] at hi'; exact (key i' b b1 b2 hi' (hF' b hi)).elim
  ·rw [if_neg a1] at hi
   by_cases a2 : i = j
   ·subst a2
    rw [if_pos rfl] at hi
    by_cases b1 : i' = k
    ·rw [if_pos b1] at hi'; exact (hd b hi' hi).elim
    ·rw [if_neg b1] at hi'
     by_cases b2 : i' = i
     ·exact b2.symm
     ·rw [if_neg b2] at hi'; exact (key i' b b1 b2 hi' (hG' b hi)).elim
   ·rw [if_neg a2] at hi
    by_cases b1 : i' = k
    ·rw [if_pos b1] at hi'; exact (key i b a1 a2 hi (hF' b hi')).elim
    ·rw [if_neg b1] at hi'
     by_cases b2 : i' = j
     ·rw [if_pos b2] at hi'; exact (key i b a1 a2 hi (hG' b hi')).elim
     ·rw [if_neg b2] at hi'; exact h5 _ _ _ hi hi'
theorem Objs.pad (h : Objs w0 w os) : Objs w0 w (.none :: os) := h.cons (Below.refl _ _) (G := fun _ => False) (fun _ hf => hf) (fun _ hf => hf.elim)
theorem Objs.split (h : Objs w0 w os) {k : Nat} {o o' o2 : Ob} (hk : os[k]? = some o)
  (hs : ∀ F : Nat → Prop, o.at w F → ∃ F' G' : Nat → Prop, Chg F w w' ∧ o'.at w' F' ∧ o2.at w' G' ∧ (∀ b, F' b → ¬ G' b) ∧ (∀ b, F' b → F b ∨ w.heap.size ≤ b) ∧ ∀ b, G' b → F b ∨ w.heap.size ≤ b) : Objs w0 w' (o2 :: os.set k o') :=
 h.pad.join (k := k + 1) (j := 0) (o := o) (oj := .none) (o' := o') (oj' := o2) (by simpa using hk) rfl (by omega) (fun F G hF hG _ => by
  obtain ⟨F', G', hc, h1, h2, h3, h4, h5⟩ := hs F hF
  exact ⟨F', G', hc.mono (fun b _ hb => .inl hb), h1, h2, h3, fun b hb => (h4 b hb).elim .inl (fun x => .inr (.inr x)), fun b hb => (h5 b hb).elim .inl (fun x => .inr (.inr x))⟩)
theorem Objs.drop (h : Objs w0 w os) (k : Nat) : Objs w0 w (os.set k .none) := by
 cases hk : os[k]? with
 | none => rw [List.set_eq_of_length_le (by simpa using hk)]; exact h
 | some o => exact h.upd hk (fun F hF => ⟨fun _ => False, Chg.refl _ _, fun _ hf => hf, fun _ hf => hf.elim⟩)

theorem Objs.get (h : Objs w0 w os) {k : Nat} {o : Ob} (hk : os[k]? = some o) : ∃ F, o.at w F := by
 obtain ⟨h1, F, h2, _⟩ := h
 exact ⟨F k, h2 k o hk⟩
theorem Objs.box (h : Objs w0 w os) {k g : Nat} {t : TypeId} {cs : Array Value} (hk : os[k]? = some (.box g t cs)) : Blk w g t cs := by
 obtain ⟨F, hF⟩ := h.get hk; exact hF.1
theorem Objs.own (h : Objs w0 w os) {k : Nat} {v : Value} {cs : List Cell} (hk : os[k]? = some (.cells v cs)) : OwnC w 0 v cs := by
 obtain ⟨F, hF⟩ := h.get hk; exact hF.1
theorem Objs.tabs (h : Objs w0 w os) (ht : Tabs w0) : Tabs w := ht.bel h.base
theorem Objs.rd (h : Objs w0 w os) {A : Option Addr} {c : Nat} {cs : List Cell} (hr : RdC w0 A c cs) : RdC w A c cs := hr.bel h.base
theorem Objs.size (h : Objs w0 w os) : w0.heap.size ≤ w.heap.size := h.base.size
theorem Objs.alloc (h : Objs w0 w os) {cs : Array Value} {t : TypeId} {n : Nat} (hn : w.heap.size = n) : Objs w0 (w.alloc (.cells cs t)) (.box n t cs :: os) := by
 subst hn
 exact h.cons ((Below.refl _ _).alloc (Nat.le_refl _) _) (G := fun b => b = w.heap.size) ⟨Blk.new _ _ _, fun _ => Iff.rfl⟩ (fun b hb => by omega)
theorem Objs.alloc2 (h : Objs w0 w os) {c1 c2 : Array Value} {t1 t2 : TypeId} : Objs w0 ((w.alloc (.cells c1 t1)).alloc (.cells c2 t2)) (.box (w.heap.size + 1) t2 c2 :: .box w.heap.size t1 c1 :: os) := (h.alloc rfl).alloc (by simp)
theorem Objs.alloc1 (h : Objs w0 w os) {c1 : Array Value} {t1 : TypeId} : Objs w0 (w.alloc (.cells c1 t1)) (.box w.heap.size t1 c1 :: os) := h.alloc rfl
theorem Objs.alloc3 (h : Objs w0 w os) {c1 c2 c3 : Array Value} {t1 t2 t3 : TypeId} : Objs w0 (((w.alloc (.cells c1 t1)).alloc (.cells c2 t2)).alloc (.cells c3 t3)) (.box (w.heap.size + 1 + 1) t3 c3 :: .box (w.heap.size + 1) t2 c2 :: .box w.heap.size t1 c1 :: os) := h.alloc2.alloc (by simp)
theorem Objs.setBox (h : Objs w0 w os) (k : Nat) {g i : Nat} {t : TypeId} {cs : Array Value} {u : Value} (hk : os[k]? = some (.box g t cs)) : Objs w0 (w.setCell ⟨g, i, none⟩ u) (os.set k (.box g t (cs.setIfInBounds i u))) :=
 h.upd hk (fun F hF => ⟨F, ⟨rfl, rfl, rfl, by simp [World.setCell], fun b _ hn => Below.heap_setCell w _ u b (fun e => hn ((hF.2 b).2 e))⟩, ⟨hF.1.set_ i u, hF.2⟩, fun b hb => .inl hb⟩)
theorem Objs.rowBox (h : Objs w0 w os) (k : Nat) {g : Nat} {t : TypeId} {cs ds : Array Value} (hk : os[k]? = some (.box g t cs)) : Objs w0 (w.setRow g ds) (os.set k (.box g t ds)) :=
 h.upd hk (fun F hF => ⟨F, ⟨rfl, rfl, rfl, by simp [World.setRow], fun b _ hn => setRow_other w g b _ (fun e => hn ((hF.2 b).2 e))⟩, ⟨hF.1.row ds, hF.2⟩, fun b hb => .inl hb⟩)
theorem Objs.setLine (h : Objs w0 w os) (k : Nat) {g : Nat} {t : TypeId} {a b : Value} (v : Value) (s : Bool) (hk : os[k]? = some (.box g t #[a, b])) : Objs w0 ((w.setCell ⟨g, 0, none⟩ v).setCell ⟨g, 1, none⟩ (.bool s)) (os.set k (.box g t #[v, .bool s])) := by
 have h1 := h.setBox k (i := 0) (u := v) hk
 have h2 := h1.setBox k (i := 1) (u := .bool s) (g := g) (t := t) (cs := #[v, b]) (by rw [List.getElem?_set_self (List.getElem?_eq_some_iff.1 hk).1]; simp)
 simpa using h2
theorem Objs.newCells (h : Objs w0 w os) (hb : Below w.heap.size w w') {v : Value} {cs : List Cell} (ho : OwnC w' w.heap.size v cs) : Objs w0 w' (.cells v cs :: os) :=
 h.cons hb (G := fun b => v.ownBlock = some b) ⟨own_low ho (Nat.zero_le _), fun _ => Iff.rfl⟩ (fun b hb => (World.ownsRow.lt ho b hb).1)
end

section
variable {P : Program} {f : FuncId} {args : Array Value} {R : Ending → World → Prop} {w0 w w' : World} {os : List Ob}
theorem at_objsC {c : Code} {Q : Exit → Act → World → Prop} {a : Act} (h : Objs w0 w os) (hc : ∀ w', Objs w0 w' os → c.wp P Q a w') : c.wp P Q a w := hc w h
theorem pure_call {v : Value} (h : Calls P f args w fun e w' => e = .returned v ∧ Below w.heap.size w w') (hS : Objs w0 w os) : Calls P f args w fun e w' => e = .returned v ∧ Objs w0 w' os :=
 h.mono fun e w' ⟨h1, h2⟩ => ⟨h1, hS.bel h2⟩
end
end Go.Proofs.YtppijfjigcoifaaDoor

namespace Go.Proofs.YtppijfjigcoifaaDoor
open Go.RowKit

def bitsOf (done : List Nat) (o : Oper) : Nat := o.after.toList.foldl (fun m e => if Region.binds .any e then m ||| done.getD e.on 0 ||| 2 ^ e.on else m) 0
def preds (l : List Oper) (done : List Nat) : List Nat := match l with
 | [] => done
 | o :: r => preds r (done ++ [bitsOf done o])
def ahead (t : List Nat) (i j : Nat) : Bool := (t.getD j 0).testBit i
theorem bits_fold (done : List Nat) (i : Nat) : ∀ (es : List Edge) (m : Nat), (es.foldl (fun m e => if Region.binds .any e then m ||| done.getD e.on 0 ||| 2 ^ e.on else m) m).testBit i = true → m.testBit i = true ∨ ∃ e ∈ es, Region.binds .any e = true ∧ (i = e.on ∨ (done.getD e.on 0).testBit i = true)
 | [], m, h => .inl h
 | e :: es, m, h => by
  rw [List.foldl_cons] at h
  rcases bits_fold done i es _ h with h1 | ⟨e', h1, h2, h3⟩
  ·split at h1
   ·rename_i hb
    rw [Nat.testBit_or, Nat.testBit_or, Bool.or_eq_true, Bool.or_eq_true] at h1
    rcases h1 with (h1 | h1) | h1
    ·exact .inl h1
    ·exact .inr ⟨e, by simp, hb, .inr h1⟩
    ·rw [Nat.testBit_two_pow] at h1
     have h1' : e.on = i := by simpa using h1
     exact .inr ⟨e, by simp, hb, .inl h1'.symm⟩
   ·exact .inl h1
  ·exact .inr ⟨e', by simp [h1], h2, h3⟩
theorem bits_mem {done : List Nat} {o : Oper} {i : Nat} (h : (bitsOf done o).testBit i = true) : ∃ e ∈ o.after, Region.binds .any e = true ∧ (i = e.on ∨ (done.getD e.on 0).testBit i = true) := by
 rcases bits_fold done i o.after.toList 0 h with h1 | ⟨e, h1, h2⟩
 ·simp at h1
 ·exact ⟨e, by simpa using h1, h2⟩
theorem preds_get : ∀ (l : List Oper) (done : List Nat) (j : Nat), (preds l done).getD j 0 = if j < done.length then done.getD j 0 else (match l[j - done.length]? with | some o => bitsOf ((preds l done).take j) o | none => 0)
 | [], done, j => by
  unfold preds
  split
  ·rfl
  ·rename_i h; simp [List.getElem?_eq_none (show done.length ≤ j by omega)]
 | o :: r, done, j => by
  have ih := preds_get r (done ++ [bitsOf done o]) j
  have hp : preds (o :: r) done = preds r (done ++ [bitsOf done o]) := rfl
  rw [hp, ih]
  have hpre : ∀ (r : List Oper) (d : List Nat), ∃ q, preds r d = d ++ q := by
   intro r
   induction r with
   | nil => intro d; exact ⟨[], by simp [preds]⟩
   | cons o r ih => intro d; obtain ⟨q, hq⟩ := ih (d ++ [bitsOf d o]); exact ⟨bitsOf d o :: q, by rw [show preds (o :: r) d = preds r (d ++ [bitsOf d o]) from rfl, hq]; simp⟩
  by_cases h1 : j < done.length
  ·rw [if_pos (by simp; omega), if_pos h1]
   simp [List.getElem?_append_left h1]
  ·by_cases h2 : j = done.length
   ·subst h2
    rw [if_pos (by simp), if_neg (by omega)]
    simp only [Nat.sub_self, List.getElem?_cons_zero]
    obtain ⟨q, hq⟩ := hpre r (done ++ [bitsOf done o])
    rw [hq]
    simp
   ·rw [if_neg (by simp; omega), if_neg h1]
    rw [show j - done.length = (j - (done ++ [bitsOf done o]).length) + 1 by simp; omega]
    simp only [List.getElem?_cons_succ]
theorem ahead_listed {l : List Oper} (hg : growOk l.toArray = true) {L : Nat → Bool}
  (hL : ∀ (j : Nat) (o : Oper), l[j]? = some o → L j = true → ∀ e ∈ o.after, Region.binds .any e = true → L e.on = true) :
  ∀ (j i : Nat), ahead (preds l []) i j = true → ∀ o, l[j]? = some o → (∀ e ∈ o.after, Region.binds .any e = true → L e.on = true) → L i = true := by
 intro j
 induction j using Nat.strongRecOn with
 | _ j ih =>
  intro i h o ho hall
  unfold ahead at h
  rw [preds_get] at h
  simp only [List.length_nil, Nat.not_lt_zero, if_false, Nat.sub_zero, ho] at h
  obtain ⟨e, he, hb, h⟩ := bits_mem h
  have hLe := hall e he hb
  have hlt : e.on < j := growOk_edge hg (by simpa using ho) e he hb
  rcases h with rfl | h
  ·exact hLe
  ·have hx : e.on < l.length := by have := (List.getElem?_eq_some_iff.1 ho).1; omega
   refine ih e.on hlt i ?_ l[e.on] (by simp [hx]) (hL e.on l[e.on] (by simp [hx]) hLe)
   unfold ahead
   rw [List.getD_eq_getElem?_getD, List.getElem?_take] at h
   rw [if_pos hlt] at h
   rw [List.getD_eq_getElem?_getD]; exact h

abbrev Wrs := List (Nat × Nat × List Nat × ((Nat → Value) → Ob))
def only (l : List Nat) (vs : Nat → Value) : Nat → Value := fun j => if l.contains j then vs j else undef
def cont (wr : Wrs) (z : List Ob) (s : Nat) (L : Nat → Bool) (vs : Nat → Value) : Ob :=
 wr.foldl (fun acc e => if e.1 == s && L e.2.1 then e.2.2.2 (only e.2.2.1 vs) else acc) (z.getD s .none)
theorem cont_congr {wr : Wrs} {z : List Ob} {s : Nat} {L L' : Nat → Bool} {vs vs' : Nat → Value} (h1 : ∀ e ∈ wr, e.1 = s → L e.2.1 = L' e.2.1) (h2 : ∀ e ∈ wr, e.1 = s → L e.2.1 = true → ∀ d ∈ e.2.2.1, vs d = vs' d) : cont wr z s L vs = cont wr z s L' vs' := by
 unfold cont
 generalize z.getD s .none = acc
 induction wr generalizing acc with
 | nil => rfl
 | cons e r ih =>
  rw [List.foldl_cons, List.foldl_cons]
  have : (if e.1 == s && L e.2.1 then e.2.2.2 (only e.2.2.1 vs) else acc) = (if e.1 == s && L' e.2.1 then e.2.2.2 (only e.2.2.1 vs') else acc) := by
   by_cases hs : e.1 = s
   ·have a1 := h1 e (by simp) hs
    have a2 := h2 e (by simp) hs
    rw [← a1]
    cases hl : L e.2.1
    ·simp
    ·have : only e.2.2.1 vs = only e.2.2.1 vs' := by
      funext d
      unfold only
      split
      ·rename_i hd; exact a2 hl d (by simpa using hd)
      ·rfl
     rw [this]
   ·simp [hs]
  rw [this]
  exact ih (fun e he => h1 e (by simp [he])) (fun e he => h2 e (by simp [he])) _
def stageOk (t : List Nat) (n m : Nat) (wr : Wrs) (rd : List (List Nat)) : Bool :=
 (wr.all fun e => (decide (e.2.1 < n) && (rd.getD e.2.1 []).contains e.1) && e.2.2.1.all fun d => d == e.2.1 || ahead t d e.2.1) && (List.range n).all fun i => (rd.getD i []).all fun s => decide (s < m) && wr.all fun e => e.1 != s || e.2.1 == i || (decide (e.2.1 < i) && ahead t e.2.1 i) || (decide (i < e.2.1) && ahead t i e.2.1)

section
variable {P : Program} {l : List Oper} {Q : Exit → Act → World → Prop} {a0 : Act} {w0 : World} {os : List Ob}
def SPost (wr : Wrs) (rd : List (List Nat)) (z : List Ob) (val : Nat → Value → Prop) (w0 : World) (os σ : List Ob) (vs : Nat → Value) (i : Nat) (v : Value) (w2 : World) : Prop :=
 val i v ∧ ∃ σ', Objs w0 w2 (σ' ++ os) ∧ σ'.length = z.length ∧ (∀ s, s ∉ rd.getD i [] → σ'[s]? = σ[s]?) ∧ ∀ s ∈ rd.getD i [], σ'[s]? = some (cont wr z s (fun j => decide (j ≤ i)) (fun j => if j = i then v else vs j))
def SKnown (l : List Oper) (val : Nat → Value → Prop) (a0 : Act) (vs : Nat → Value) (i : Nat) (a : Act) : Prop :=
 (∀ j, ahead (preds l []) j i = true → val j (vs j) ∧ ∀ x d, l[j]? = some x → x.dst = some d → a.tmps.getD d undef = vs j) ∧
 (∀ d, (∀ x ∈ l, x.dst ≠ some d) → a.tmps.getD d undef = a0.tmps.getD d undef) ∧
 (∀ j, ahead (preds l []) i j = true ∨ j = i → ∀ x d, l[j]? = some x → x.dst = some d → a.tmps.getD d undef = a0.tmps.getD d undef)
def SInv (wr : Wrs) (z : List Ob) (val : Nat → Value → Prop) (w0 : World) (os : List Ob) (l : List Oper) (a0 : Act) (listed : Array Bool) (a : Act) (w : World) : Prop :=
 ∃ (vs : Nat → Value) (σ : List Ob), (Objs w0 w (σ ++ os) ∧ σ.length = z.length ∧ ∀ s, s < z.length → σ[s]? = some (cont wr z s (fun j => listed.getD j false) vs)) ∧ a.defers = a0.defers ∧ a.tmps.size = a0.tmps.size ∧
 (∀ (i : Nat) (o : Oper), l[i]? = some o → listed.getD i false = true → val i (vs i) ∧ ∀ d, o.dst = some d → a.tmps.getD d undef = vs i) ∧
 (∀ t, (∀ x ∈ l, x.dst ≠ some t) → a.tmps.getD t undef = a0.tmps.getD t undef) ∧
 (∀ (i : Nat) (o : Oper), l[i]? = some o → listed.getD i false = true → ∀ e ∈ o.after, Region.binds .any e = true → listed.getD e.on false = true) ∧
 (∀ (i : Nat) (o : Oper), l[i]? = some o → listed.getD i false = false → ∀ d, o.dst = some d → a.tmps.getD d undef = a0.tmps.getD d undef)

theorem stage_any (wr : Wrs) (rd : List (List Nat)) (z : List Ob) (val : Nat → Value → Prop) (hok : stageOk (preds l []) l.length z.length wr rd = true) (hg : growOk l.toArray = true) (hsz : ∀ o : Oper, o ∈ l → ∀ d, o.dst = some d → d < a0.tmps.size)
  (hstep : ∀ (i : Nat) (o : Oper), l[i]? = some o → ∀ a w vs σ, Objs w0 w (σ ++ os) → σ.length = z.length → (∀ s ∈ rd.getD i [], σ[s]? = some (cont wr z s (fun j => decide (j < i)) vs)) → SKnown l val a0 vs i a → RStep P l.toArray Q (SPost wr rd z val w0 os σ vs i) (fun _ _ => True) o a w)
  (hQ : ∀ (vs : Nat → Value) w σ, Objs w0 w (σ ++ os) → σ.length = z.length → (∀ s, s < z.length → σ[s]? = some (cont wr z s (fun _ => true) vs)) → (∀ (i : Nat), i < l.length → val i (vs i)) → Q .normal (putL vs 0 l a0) w) :
  ∀ (fuel : Nat) (listed : Array Bool) (a : Act) (w : World), listed.size = l.length → listed.toList.count false ≤ fuel → SInv wr z val w0 os l a0 listed a w → wpAny P .any l.toArray Q fuel listed a w := by
 have hidx : ∀ {i : Nat} {o : Oper}, l[i]? = some o → i < l.length := fun h => (List.getElem?_eq_some_iff.1 h).1
 have hsz' : ∀ o : Oper, o ∈ l.toArray → ∀ d, o.dst = some d → d < a0.tmps.size := fun o ho => hsz o (by simpa using ho)
 simp only [stageOk, Bool.and_eq_true] at hok
 obtain ⟨hok1, hok2⟩ := hok
 have hwx : ∀ e ∈ wr, (e.2.1 < l.length ∧ e.1 ∈ rd.getD e.2.1 []) ∧ ∀ d ∈ e.2.2.1, d = e.2.1 ∨ ahead (preds l []) d e.2.1 = true := fun e he => by
  have := List.all_eq_true.1 hok1 e he
  simp only [Bool.and_eq_true, decide_eq_true_eq, List.contains_iff_mem] at this
  refine ⟨this.1, fun d hd => ?_⟩
  have h := List.all_eq_true.1 this.2 d hd
  simpa using h
 have hw0 : ∀ e ∈ wr, e.2.1 < l.length ∧ e.1 ∈ rd.getD e.2.1 [] := fun e he => (hwx e he).1
 have hw1 : ∀ e ∈ wr, e.1 ∈ rd.getD e.2.1 [] := fun e he => (hw0 e he).2
 have hw2 : ∀ i, i < l.length → ∀ s ∈ rd.getD i [], s < z.length ∧ ∀ e ∈ wr, e.1 = s → e.2.1 = i ∨ (e.2.1 < i ∧ ahead (preds l []) e.2.1 i = true) ∨ (i < e.2.1 ∧ ahead (preds l []) i e.2.1 = true) := fun i hi s hs => by
  have h1 := List.all_eq_true.1 hok2 i (by simp [hi])
  have h2 := List.all_eq_true.1 h1 s hs
  simp only [Bool.and_eq_true, decide_eq_true_eq] at h2
  refine ⟨h2.1, fun e he hes => ?_⟩
  have h3 := List.all_eq_true.1 h2.2 e he
  simp only [Bool.or_eq_true, Bool.and_eq_true, decide_eq_true_eq, bne_iff_ne, beq_iff_eq, ne_eq] at h3
  rcases h3 with ((h3 | h3) | h3) | h3
  ·exact absurd hes h3
  ·exact .inl h3
  ·exact .inr (.inl h3)
  ·exact .inr (.inr h3)
 have hend : ∀ (listed : Array Bool) (a : Act) (w : World), listed.size = l.length → SInv wr z val w0 os l a0 listed a w → Region.ready .any l.toArray listed = [] → Q .normal a w := by
  intro listed a w hs ⟨vs, σ, ⟨hS, hσ, hc⟩, hd, hz, hk, ho, _, _⟩ hr
  have hall := ready_none (ops := l.toArray) hg (by simpa using hs) hr
  have hall' : ∀ i, i < l.length → listed.getD i false = true := fun i hi => hall i (by simpa using hi)
  have := hQ vs w σ hS hσ (fun s hs' => by
   rw [hc s hs']
   congr 1
   refine cont_congr (fun e he hes => ?_) (fun _ _ _ _ _ _ => rfl)
   exact hall' _ (hw0 e he).1) (fun i hi => (hk i l[i] (by simp [hi]) (hall' i hi)).1)
  have heq : putL vs 0 l a0 = a := by
   have h1 := putL_size vs l 0 a0
   have h2 := putL_defers vs l 0 a0
   have h3 : ∀ t, (putL vs 0 l a0).tmps.getD t undef = a.tmps.getD t undef := by
    intro t
    by_cases ht : ∃ (j : Nat) (o : Oper), l[j]? = some o ∧ o.dst = some t
    ·obtain ⟨j, o, hj, hdt⟩ := ht
     rw [putL_at _ t l 0 a0 j o hj hdt (fun i x hx he => growOk_dst (ops := l.toArray) hg (by simpa using hx) (by simpa using hj) he hdt) (hsz o (List.mem_of_getElem? hj) t hdt)]
     rw [Nat.zero_add]
     exact ((hk j o hj (hall' j (hidx hj))).2 t hdt).symm
    ·have hno : ∀ x ∈ l, x.dst ≠ some t := fun x hx he => by
      obtain ⟨j, hj⟩ := List.getElem?_of_mem hx
      exact ht ⟨j, x, hj, he⟩
     rw [putL_none _ t _ _ _ hno, ho t hno]
   generalize putL vs 0 l a0 = b at h1 h2 h3
   obtain ⟨bt, bd⟩ := b
   obtain ⟨at_, ad⟩ := a
   simp only at h1 h2 h3 hd hz
   rw [Act.mk.injEq]
   refine ⟨?_, by rw [h2, hd]⟩
   apply Array.ext (by omega)
   intro i hi1 hi2
   have := h3 i
   simpa [hi1, hi2] using this
  rw [heq] at this
  exact this
 intro fuel
 induction fuel with
 | zero =>
  intro listed a w hs hc hi
  have hr : Region.ready .any l.toArray listed = [] := by
   apply List.eq_nil_iff_forall_not_mem.2
   intro i hm
   rw [mem_ready] at hm
   obtain ⟨h1, o, h2, _⟩ := hm
   have hlt : i < listed.size := by rw [hs]; simpa using (Array.getElem?_eq_some_iff.1 h2).1
   have : listed.toList.count false = 0 := by omega
   rw [List.count_eq_zero] at this
   apply this
   simp [hlt] at h1
   rw [← h1]
   simp
  exact ⟨hr, hend listed a w hs hi hr⟩
 | succ fuel ih =>
  intro listed a w hs hc hi
  refine ⟨hend listed a w hs hi, fun i hm => ?_⟩
  have hm' := hm
  rw [mem_ready] at hm'
  obtain ⟨h1, o, h2, h3⟩ := hm'
  have h2' : l[i]? = some o := by simpa using h2
  have hlt : i < listed.size := by rw [hs]; exact hidx h2'
  have hli : listed[i] = false := by simpa [hlt] using h1
  have hlid : listed.getD i false = false := by simp [hlt, hli]
  obtain ⟨vs, σ, ⟨hS, hσ, hcon⟩, hd, hz, hk, hu, hcl, hun⟩ := hi
  have hah : ∀ j, ahead (preds l []) j i = true → listed.getD j false = true := fun j hj => ahead_listed (l := l) (L := fun j => listed.getD j false) hg (fun j o ho hl => hcl j o ho hl) i j hj o h2' h3
  have hbh : ∀ j, ahead (preds l []) i j = true → j < l.length → listed.getD j false = false := fun j hj hjl => by
   cases hlj : listed.getD j false with
   | false => rfl
   | true =>
    have := ahead_listed (l := l) (L := fun j => listed.getD j false) hg (fun j o ho hl => hcl j o ho hl) j i hj l[j] (by simp [hjl]) (hcl j l[j] (by simp [hjl]) hlj)
    have this' : listed.getD i false = true := this
    rw [hlid] at this'; cases this'
  have hdn : ∀ j, listed.getD j false = true → ∀ d, ahead (preds l []) d j = true → listed.getD d false = true := fun j hj d hd => by
   have hjl : j < l.length := by
    rcases Nat.lt_or_ge j l.length with h | h
    ·exact h
    ·simp [Array.getD, show ¬ j < listed.size by omega] at hj
   exact ahead_listed (l := l) (L := fun j => listed.getD j false) hg (fun j o ho hl => hcl j o ho hl) j d hd l[j] (by simp [hjl]) (hcl j l[j] (by simp [hjl]) hj)
  have hahl : ∀ j, ahead (preds l []) j i = true → j < l.length := fun j hj => by
   have := hah j hj
   rcases Nat.lt_or_ge j l.length with h | h
   ·exact h
   ·simp [Array.getD, show ¬ j < listed.size by omega] at this
  have hkn : SKnown l val a0 vs i a := by
   refine ⟨fun j hj => ?_, hu, fun j hj x d hx hxd => ?_⟩
   ·have hjl := hahl j hj
    have := hk j l[j] (by simp [hjl]) (hah j hj)
    exact ⟨this.1, fun x d hx hxd => by
     have hx' : l[j] = x := by simpa [hjl] using hx
     subst hx'
     exact this.2 d hxd⟩
   ·rcases hj with hj | rfl
    ·exact hun j x hx (hbh j hj (hidx hx)) d hxd
    ·exact hun j x hx hlid d hxd
  have hagree : ∀ s ∈ rd.getD i [], ∀ e ∈ wr, e.1 = s → e.2.1 ≠ i → listed.getD e.2.1 false = decide (e.2.1 < i) := fun s hs' e he hes hne => by
   rcases (hw2 i (hidx h2') s hs').2 e he hes with h | ⟨h, h'⟩ | ⟨h, h'⟩
   ·exact absurd h hne
   ·rw [hah _ h']; simp [h]
   ·have : listed.getD e.2.1 false = false := by
     rcases Nat.lt_or_ge e.2.1 l.length with hl | hl
     ·exact hbh _ h' hl
     ·simp [Array.getD, show ¬ e.2.1 < listed.size by omega]
    rw [this]; simp; omega
  have hst := hstep i o h2' a w vs σ hS hσ (fun s hs' => by
   rw [hcon s (hw2 i (hidx h2') s hs').1]
   congr 1
   refine cont_congr (fun e he hes => ?_) (fun _ _ _ _ _ _ => rfl)
   by_cases hei : e.2.1 = i
   ·rw [hei, hlid]; simp
   ·exact hagree s hs' e he hes hei) hkn
  have hnext : ∀ a2 w2, (∃ v, a2 = a.put o.dst v ∧ SPost wr rd z val w0 os σ vs i v w2) → wpAny P .any l.toArray Q fuel (listed.setIfInBounds i true) a2 w2 := by
   rintro a2 w2 ⟨v, rfl, hv, σ', hS', hσ', hσo, hσi⟩
   have hset : ∀ j, (listed.setIfInBounds i true).getD j false = (if j = i then true else listed.getD j false) := fun j => by
    by_cases hij : i = j
    ·subst hij; simp [hlt]
    ·rw [getD_set_ne _ hij, if_neg (fun e => hij e.symm)]
   refine ih _ _ _ (by simpa using hs) ?_ ⟨fun j => if j = i then v else vs j, σ', ⟨hS', hσ', fun s hs' => ?_⟩, by rw [put_defers]; exact hd, by rw [put_size]; exact hz, ?_, ?_, ?_, ?_⟩
   ·rw [Array.toList_setIfInBounds, List.count_set (by simpa using hlt)]
    simp only [Array.getElem_toList, hli]
    have : 0 < listed.toList.count false := List.count_pos_iff.2 (by rw [← hli]; simp)
    simp
    simp at this hc
    omega
   ·by_cases hmem : s ∈ rd.getD i []
    ·rw [hσi s hmem]
     congr 1
     refine cont_congr (fun e he hes => ?_) (fun e he hes _ d hd => rfl)
     rw [hset]
     by_cases hei : e.2.1 = i
     ·simp [hei]
     ·rw [if_neg hei, hagree s hmem e he hes hei]
      simp only [decide_eq_decide]; omega
    ·rw [hσo s hmem, hcon s hs']
     congr 1
     have hne : ∀ e ∈ wr, e.1 = s → e.2.1 ≠ i := fun e he hes hei => hmem (by have := hw1 e he; rw [hes, hei] at this; exact this)
     refine cont_congr (fun e he hes => ?_) (fun e he hes hL d hd => ?_)
     ·rw [hset, if_neg (hne e he hes)]
     ·have hL' : listed.getD e.2.1 false = true := hL
      have hdl : listed.getD d false = true := by
       rcases (hwx e he).2 d hd with rfl | h
       ·exact hL'
       ·exact hdn e.2.1 hL' d h
      have : d ≠ i := fun e => by rw [e, hlid] at hdl; cases hdl
      simp only [if_neg this]
   ·intro j x hj hl
    simp only
    by_cases hij : j = i
    ·subst hij
     rw [h2'] at hj
     cases hj
     simp only [if_true]
     exact ⟨hv, fun d hxd => by rw [hxd, put_same _ _ _ (by rw [hz]; exact hsz _ (List.mem_of_getElem? h2') d hxd)]⟩
    ·rw [hset, if_neg hij] at hl
     simp only [if_neg hij]
     have := hk j x hj hl
     exact ⟨this.1, fun d hxd => by
      rw [put_other _ _ _ _ (fun e => hij (growOk_dst (ops := l.toArray) hg (by simpa using hj) (by simpa using h2') hxd e))]
      exact this.2 d hxd⟩
   ·intro t ht
    rw [put_other _ _ _ _ (ht o (List.mem_of_getElem? h2'))]
    exact hu t ht
   ·intro j x hj hl e he hbi
    rw [hset] at hl ⊢
    by_cases hei : e.on = i
    ·rw [if_pos hei]
    ·rw [if_neg hei]
     by_cases hij : j = i
     ·subst hij
      rw [h2'] at hj
      cases hj
      exact h3 e he hbi
     ·rw [if_neg hij] at hl
      exact hcl j x hj hl e he hbi
   ·intro j x hj hl d hxd
    rw [hset] at hl
    by_cases hij : j = i
    ·rw [if_pos hij] at hl; cases hl
    ·rw [if_neg hij] at hl
     rw [put_other _ _ _ _ (fun e => hij (growOk_dst (ops := l.toArray) hg (by simpa using hj) (by simpa using h2') hxd e))]
     exact hun j x hj hl d hxd
  unfold wpOp
  simp only [h2]
  unfold RStep at hst
  by_cases hw : Region.wanted o (yielded l.toArray a.tmps) = true
  ·rw [if_pos hw] at hst
   rw [if_pos hw]
   exact .inl (Oper.wp_mono (fun a2 w2 ⟨v, h1, h2, _⟩ => hnext a2 w2 ⟨v, h1, h2⟩) hst)
  ·rw [if_neg hw] at hst
   rw [if_neg hw]
   exact hnext _ _ ⟨undef, rfl, hst.1⟩

def SSteps (P : Program) (l : List Oper) (Q : Exit → Act → World → Prop) (wr : Wrs) (rd : List (List Nat)) (z : List Ob) (val : Nat → Value → Prop) (w0 : World) (os : List Ob) (a0 : Act) (k : Nat) (r : List Oper) : Prop :=
 ∀ (j : Nat) (o : Oper), r[j]? = some o → ∀ a w vs σ, Objs w0 w (σ ++ os) → σ.length = z.length → (∀ s ∈ rd.getD (k + j) [], σ[s]? = some (cont wr z s (fun i => decide (i < k + j)) vs)) → SKnown l val a0 vs (k + j) a →
  RStep P l.toArray Q (SPost wr rd z val w0 os σ vs (k + j)) (fun _ _ => True) o a w
variable {wr : Wrs} {rd : List (List Nat)} {z : List Ob} {val : Nat → Value → Prop} {k : Nat} {o : Oper} {r : List Oper}
theorem SSteps.nil : SSteps P l Q wr rd z val w0 os a0 k [] := fun j o h => by simp at h
theorem SSteps.cons (h : ∀ a w vs σ, Objs w0 w (σ ++ os) → σ.length = z.length → (∀ s ∈ rd.getD k [], σ[s]? = some (cont wr z s (fun i => decide (i < k)) vs)) → SKnown l val a0 vs k a → RStep P l.toArray Q (SPost wr rd z val w0 os σ vs k) (fun _ _ => True) o a w)
  (hr : SSteps P l Q wr rd z val w0 os a0 (k + 1) r) : SSteps P l Q wr rd z val w0 os a0 k (o :: r) := fun j x hx => by
 cases j with
 | zero => simp at hx; subst hx; exact h
 | succ j =>
  have := hr j x (by simpa using hx)
  rw [show k + 1 + j = k + (j + 1) by omega] at this
  exact this
theorem wp_region_stage {id : Nat} {w : World} (hm : P.follows .mixedOrders = true) (hg : growOk l.toArray = true) (hsz : l.toArray.all (fun o => o.dst.all (fun d => decide (d < a0.tmps.size))) = true)
  (wr : Wrs) (rd : List (List Nat)) (z : List Ob) (val : Nat → Value → Prop) (fin : (Nat → Value) → List Ob)
  (hok : stageOk (preds l []) l.length z.length wr rd = true) (hfin : ∀ vs, (List.range z.length).map (fun s => cont wr z s (fun _ => true) vs) = fin vs)
  (hS : Objs w0 w (z ++ os)) (hstep : SSteps P l Q wr rd z val w0 os a0 0 l)
  (hQ : ∀ (vs : Nat → Value) w', Objs w0 w' (fin vs ++ os) → (∀ (i : Nat), i < l.length → val i (vs i)) → Q .normal (putL vs 0 l a0) w') : (Code.region id l.toArray true).wp P Q a0 w := by
 refine wp_region_any hm (stage_any wr rd z val hok hg (fun o ho d hd => ?_) (fun i o ho a w vs σ h1 h2 h3 h4 => ?_) (fun vs w' σ h1 h2 h3 h4 => hQ vs w' ?_ h4) _ _ a0 _ (by simp) (by simp) ⟨fun _ => undef, z, ⟨hS.drew, rfl, fun s hs => ?_⟩, rfl, rfl, fun i o _ hl => ?_, fun _ _ => rfl, fun i o _ hl => ?_, fun _ _ _ _ _ _ => rfl⟩)
 ·have := Array.all_eq_true_iff_forall_mem.1 hsz o (by simpa using ho)
  simpa [hd] using this
 ·have := hstep i o ho a w vs σ h1 h2 (by rw [Nat.zero_add]; exact h3) (by rw [Nat.zero_add]; exact h4)
  rwa [Nat.zero_add] at this
 ·have : σ = fin vs := by
   rw [← hfin vs]
   apply List.ext_getElem?
   intro s
   rcases Nat.lt_or_ge s z.length with hs | hs
   ·rw [h3 s hs]; simp [hs]
   ·rw [List.getElem?_eq_none (by omega), List.getElem?_eq_none (by simpa using hs)]
  rw [← this]; exact h1
 ·have : cont wr z s (fun j => (Array.replicate l.length false).getD j false) (fun _ => undef) = z.getD s .none := by
   have h : ∀ (wr : Wrs) (acc : Ob), wr.foldl (fun acc e => if e.1 == s && (Array.replicate l.length false).getD e.2.1 false then e.2.2.2 (only e.2.2.1 fun _ => undef) else acc) acc = acc := by
    intro wr
    induction wr with
    | nil => intro acc; rfl
    | cons e r ih =>
     intro acc
     rw [List.foldl_cons, if_neg (by simp [Array.getD]), ih]
   exact h wr _
  have e2 : l.toArray.size = l.length := by simp
  rw [e2, this]
  simp [hs]
 ·simp [Array.getD] at hl
 ·simp [Array.getD] at hl

variable {σ : List Ob} {vs : Nat → Value} {i : Nat} {v : Value} {w2 : World}
theorem sp_same (hn : wr.all (fun e => e.2.1 != i && (decide (i < e.2.1) || e.2.2.1.all (fun d => d != i))) = true) (hl : σ.length = z.length) (hσ : ∀ s ∈ rd.getD i [], σ[s]? = some (cont wr z s (fun j => decide (j < i)) vs)) (hS : Objs w0 w2 (σ ++ os)) (hv : val i v) : SPost wr rd z val w0 os σ vs i v w2 :=
 ⟨hv, σ, hS, hl, fun _ _ => rfl, fun s hs => by
  rw [hσ s hs]
  congr 1
  have hne : ∀ e ∈ wr, e.2.1 ≠ i ∧ (i < e.2.1 ∨ ∀ d ∈ e.2.2.1, d ≠ i) := fun e he => by simpa using List.all_eq_true.1 hn e he
  refine cont_congr (fun e he hes => ?_) (fun e he hes hL d hd => ?_)
  ·have := (hne e he).1; simp only [decide_eq_decide]; omega
  ·rcases (hne e he).2 with h | h
   ·simp at hL; omega
   ·simp only [if_neg (h d hd)]⟩
theorem sp_set (s0 : Nat) (o' : Ob) (hn : wr.all (fun e => e.1 == s0 || (e.2.1 != i && (decide (i < e.2.1) || e.2.2.1.all (fun d => d != i)))) = true) (hs0 : s0 < z.length) (hin : (rd.getD i []).contains s0 = true) (hl : σ.length = z.length) (hσ : ∀ s ∈ rd.getD i [], σ[s]? = some (cont wr z s (fun j => decide (j < i)) vs))
  (ho : cont wr z s0 (fun j => decide (j ≤ i)) (fun j => if j = i then v else vs j) = o') (hS : Objs w0 w2 ((σ ++ os).set s0 o')) (hv : val i v) : SPost wr rd z val w0 os σ vs i v w2 :=
 ⟨hv, σ.set s0 o', by rwa [List.set_append_left _ _ (by omega)] at hS, by simpa using hl, fun s hs => by rw [List.getElem?_set_ne]; rintro rfl; exact hs (by simpa using hin), fun s hs => by
  by_cases h : s0 = s
  ·subst h
   rw [List.getElem?_set_self (by omega), ho]
  ·rw [List.getElem?_set_ne h, hσ s hs]
   congr 1
   have hne : ∀ e ∈ wr, e.1 = s → e.2.1 ≠ i ∧ (i < e.2.1 ∨ ∀ d ∈ e.2.2.1, d ≠ i) := fun e he hes => by
    have := List.all_eq_true.1 hn e he
    simp [hes] at this
    rcases this with e | this
    ·exact (h e.symm).elim
    ·exact this
   refine cont_congr (fun e he hes => ?_) (fun e he hes hL d hd => ?_)
   ·have := (hne e he hes).1; simp only [decide_eq_decide]; omega
   ·rcases (hne e he hes).2 with h | h
    ·simp at hL; omega
    ·simp only [if_neg (h d hd)]⟩
theorem sp_set2 (s0 s1 : Nat) (o0 o1 : Ob) (h01 : s0 ≠ s1) (hn : wr.all (fun e => e.1 == s0 || e.1 == s1 || (e.2.1 != i && (decide (i < e.2.1) || e.2.2.1.all (fun d => d != i)))) = true) (hs0 : s0 < z.length) (hs1 : s1 < z.length) (hin0 : (rd.getD i []).contains s0 = true) (hin1 : (rd.getD i []).contains s1 = true) (hl : σ.length = z.length) (hσ : ∀ s ∈ rd.getD i [], σ[s]? = some (cont wr z s (fun j => decide (j < i)) vs))
  (ho0 : cont wr z s0 (fun j => decide (j ≤ i)) (fun j => if j = i then v else vs j) = o0) (ho1 : cont wr z s1 (fun j => decide (j ≤ i)) (fun j => if j = i then v else vs j) = o1) (hS : Objs w0 w2 (((σ ++ os).set s0 o0).set s1 o1)) (hv : val i v) : SPost wr rd z val w0 os σ vs i v w2 :=
 ⟨hv, (σ.set s0 o0).set s1 o1, by rwa [List.set_append_left _ _ (by omega), List.set_append_left _ _ (by simp; omega)] at hS, by simpa using hl, fun s hs => by
  rw [List.getElem?_set_ne, List.getElem?_set_ne]
  ·rintro rfl; exact hs (by simpa using hin0)
  ·rintro rfl; exact hs (by simpa using hin1), fun s hs => by
  by_cases h1 : s1 = s
  ·subst h1
   rw [List.getElem?_set_self (by simp; omega), ho1]
  ·rw [List.getElem?_set_ne h1]
   by_cases h : s0 = s
   ·subst h
    rw [List.getElem?_set_self (by omega), ho0]
   ·rw [List.getElem?_set_ne h, hσ s hs]
    congr 1
    have hne : ∀ e ∈ wr, e.1 = s → e.2.1 ≠ i ∧ (i < e.2.1 ∨ ∀ d ∈ e.2.2.1, d ≠ i) := fun e he hes => by
     have := List.all_eq_true.1 hn e he
     simp [hes] at this
     rcases this with (e | e) | this
     ·exact (h e.symm).elim
     ·exact (h1 e.symm).elim
     ·exact this
    refine cont_congr (fun e he hes => ?_) (fun e he hes hL d hd => ?_)
    ·have := (hne e he hes).1; simp only [decide_eq_decide]; omega
    ·rcases (hne e he hes).2 with h | h
     ·simp at hL; omega
     ·simp only [if_neg (h d hd)]⟩
theorem sg {s : Nat} {x : Ob} (h : σ[s]? = some x) : (σ ++ os)[s]? = some x := by rw [List.getElem?_append_left (List.getElem?_eq_some_iff.1 h).1]; exact h
theorem rs_skip {o : Oper} {a : Act} {w : World} {Φ : Value → World → Prop} (hw : Region.wanted o (yielded l.toArray a.tmps) = false) (hv : Φ undef w) : RStep P l.toArray Q Φ (fun _ _ => True) o a w := by
 unfold RStep
 rw [if_neg (by rw [hw]; simp)]
 exact ⟨hv, trivial⟩
theorem sk_val {a : Act} (hk : SKnown l val a0 vs i a) (j : Nat) (hj : ahead (preds l []) j i = true) {x : Oper} {d : Tmp} (hx : l[j]? = some x) (hd : x.dst = some d) : a.tmps.getD d undef = vs j := (hk.1 j hj).2 x d hx hd
theorem sk_old {a : Act} (hk : SKnown l val a0 vs i a) (d : Tmp) (h : l.all (fun x => !decide (x.dst = some d)) = true) : a.tmps.getD d undef = a0.tmps.getD d undef :=
 hk.2.1 d (fun x hx e => by have := List.all_eq_true.1 h x hx; simp [e] at this)
theorem sk_later {a : Act} (hk : SKnown l val a0 vs i a) (j : Nat) (hj : (ahead (preds l []) i j || j == i) = true) {x : Oper} {d : Tmp} (hx : l[j]? = some x) (hd : x.dst = some d) : a.tmps.getD d undef = a0.tmps.getD d undef :=
 hk.2.2 j (by simpa using hj) x d hx hd
end

section
variable {w0 w w' : World} {os : List Ob}
theorem Objs.move (h : Objs w0 w os) {i j : Nat} {o : Ob} (hi : os[i]? = some o) (hj : os[j]? = some .none) (hij : i ≠ j) : Objs w0 w ((os.set i .none).set j o) :=
 h.join (w' := w) hi hj hij (fun F G hF hG _ => ⟨fun _ => False, F, Chg.refl _ _, fun _ hf => hf, hF, fun _ hf => hf.elim, fun _ hf => hf.elim, fun _ hf => .inl hf⟩)
theorem Objs.lift (h : Objs w0 w os) {k : Nat} {o : Ob} (hk : os[k]? = some o) : Objs w0 w (o :: os.set k .none) := by
 have := h.pad.move (i := k + 1) (j := 0) (o := o) (by simpa using hk) rfl (by omega)
 simpa using this
theorem Objs.place {o : Ob} (h : Objs w0 w (o :: os)) {k : Nat} (hk : os[k]? = some .none) : Objs w0 w (os.set k o) := by
 have := h.move (i := 0) (j := k + 1) (o := o) rfl (by simpa using hk) (by omega)
 simpa using this.tail
theorem set_none_get {os : List Ob} {k : Nat} {o : Ob} (hk : os[k]? = some o) : (os.set k .none)[k]? = some .none := by
 rw [List.getElem?_set_self (List.getElem?_eq_some_iff.1 hk).1]
theorem Objs.del (h : Objs w0 w os) (k : Nat) : Objs w0 w (os.eraseIdx k) := by
 obtain ⟨h1, F, h2, h3, h4, h5⟩ := h
 refine ⟨h1, fun i => if i < k then F i else F (i + 1), fun i o hi => ?_, fun i b hF => ?_, fun i hi b hF => ?_, fun i j b hi hj => ?_⟩
 ·rw [List.getElem?_eraseIdx] at hi
  split at hi
  ·rename_i hlt; simp only [hlt, if_true]; exact h2 i o hi
  ·rename_i hlt; simp only [hlt, if_false]; exact h2 (i + 1) o hi
 ·simp only at hF
  split at hF
  ·exact h3 _ b hF
  ·exact h3 _ b hF
 ·simp only at hF
  rw [List.length_eraseIdx] at hi
  split at hF
  ·rename_i hlt
   split at hi
   ·exact h4 i (by omega) b hF
   ·exact h4 i (by omega) b hF
  ·split at hi
   ·exact h4 (i + 1) (by omega) b hF
   ·exact h4 (i + 1) (by omega) b hF
 ·simp only at hi hj
  split at hi <;> split at hj
  ·exact h5 _ _ b hi hj
  ·have := h5 _ _ b hi hj; omega
  ·have := h5 _ _ b hi hj; omega
  ·have := h5 _ _ b hi hj; omega
theorem Objs.drop2 {a b : Ob} (h : Objs w0 w (a :: b :: os)) : Objs w0 w (a :: os) := h.del 1
theorem Objs.lower {o o' : Ob} {k : Nat} (hk : os[k]? = some o) (h : Objs w0 w (o' :: os.set k .none)) : Objs w0 w (os.set k o') := by
 have := h.place (set_none_get hk)
 rwa [List.set_set] at this
end
/-- Short forms of the steps above, with what is plain left to be found. -/
theorem svv {l : List Oper} {val : Nat → Value → Prop} {a0 a : Act} {vs : Nat → Value} {i : Nat} (hk : SKnown l val a0 vs i a) (j : Nat) {d : Tmp} {V : Value} (hj : ahead (preds l []) j i = true := by kernel_rfl) (hd : (l[j]?).bind (·.dst) = some d := by rfl) (hv : val j (vs j) = (vs j = V) := by rfl) : a.tmps.getD d undef = V := by
  cases h : l[j]? with
  | none => rw [h] at hd; cases hd
  | some x => rw [h] at hd; exact ((hk.1 j hj).2 x d h hd).trans (hv ▸ (hk.1 j hj).1)
theorem svf {l : List Oper} {val : Nat → Value → Prop} {a0 a : Act} {vs : Nat → Value} {i : Nat} (hk : SKnown l val a0 vs i a) (j : Nat) {d : Tmp} {V : Value} (hj : ahead (preds l []) j i = true := by kernel_rfl) (hd : (l[j]?).bind (·.dst) = some d := by rfl) (hv : val j (vs j) = (vs j = V) := by rfl) : a.tmps[d]?.getD undef = V := by
  rw [← Array.getD_eq_getD_getElem?]; exact svv hk j hj hd hv
theorem so {l : List Oper} {val : Nat → Value → Prop} {a0 a : Act} {vs : Nat → Value} {i : Nat} (hk : SKnown l val a0 vs i a) {d : Tmp} {V : Value} (h : l.all (fun x => !decide (x.dst = some d)) = true := by kernel_rfl) (hv : a0.tmps.getD d undef = V := by rfl) : a.tmps.getD d undef = V := (sk_old hk d h).trans hv
theorem sof {l : List Oper} {val : Nat → Value → Prop} {a0 a : Act} {vs : Nat → Value} {i : Nat} (hk : SKnown l val a0 vs i a) {d : Tmp} {V : Value} (h : l.all (fun x => !decide (x.dst = some d)) = true := by kernel_rfl) (hv : a0.tmps.getD d undef = V := by rfl) : a.tmps[d]?.getD undef = V := by
  rw [← Array.getD_eq_getD_getElem?]; exact so hk h hv
theorem ss {wr : Wrs} {rd : List (List Nat)} {z : List Ob} {val : Nat → Value → Prop} {w0 w2 : World} {os σ : List Ob} {vs : Nat → Value} {i : Nat} {v : Value} (hl : σ.length = z.length) (hσ : ∀ s ∈ rd.getD i [], σ[s]? = some (cont wr z s (fun j => decide (j < i)) vs)) (hS : Objs w0 w2 (σ ++ os)) (hn : wr.all (fun e => e.2.1 != i && (decide (i < e.2.1) || e.2.2.1.all (fun d => d != i))) = true := by kernel_rfl) (hv : val i v := by exact rfl) : SPost wr rd z val w0 os σ vs i v w2 := sp_same hn hl hσ hS hv
theorem rq {l : List Oper} {Q : Exit → Act → World → Prop} {o : Oper} {a : Act} {w : World} {wr : Wrs} {rd : List (List Nat)} {z : List Ob} {val : Nat → Value → Prop} {w0 : World} {os σ : List Ob} {vs : Nat → Value} {i : Nat} (v : Value) (hw : Region.wanted o (yielded l.toArray a.tmps) = true) (hr : (execOp a.eval o).run Tryd.prog w = .ok (.value v) w) (hl : σ.length = z.length) (hσ : ∀ s ∈ rd.getD i [], σ[s]? = some (cont wr z s (fun j => decide (j < i)) vs)) (hS : Objs w0 w (σ ++ os)) (hn : wr.all (fun e => e.2.1 != i && (decide (i < e.2.1) || e.2.2.1.all (fun d => d != i))) = true := by kernel_rfl) (hv : val i v := by exact rfl) : RStep Tryd.prog l.toArray Q (SPost wr rd z val w0 os σ vs i) (fun _ _ => True) o a w := ro_pure hw hr (sp_same hn hl hσ hS hv) trivial
theorem rp {l : List Oper} {Q : Exit → Act → World → Prop} {o : Oper} {a : Act} {w : World} {wr : Wrs} {rd : List (List Nat)} {z : List Ob} {val : Nat → Value → Prop} {w0 : World} {os σ : List Ob} {vs : Nat → Value} {i : Nat} (v : Value) (hr : (execOp a.eval o).run Tryd.prog w = .ok (.value v) w) (hl : σ.length = z.length) (hσ : ∀ s ∈ rd.getD i [], σ[s]? = some (cont wr z s (fun j => decide (j < i)) vs)) (hS : Objs w0 w (σ ++ os)) (hw : Region.wanted o (yielded l.toArray a.tmps) = true := by exact wanted_none rfl) (hn : wr.all (fun e => e.2.1 != i && (decide (i < e.2.1) || e.2.2.1.all (fun d => d != i))) = true := by kernel_rfl) (hv : val i v := by exact rfl) : RStep Tryd.prog l.toArray Q (SPost wr rd z val w0 os σ vs i) (fun _ _ => True) o a w := rq v hw hr hl hσ hS hn hv
@[go_sem] abbrev pt (b o : Nat) : Value := .pointer (some ⟨b, o, none⟩)
theorem sc {P : Program} {l : List Oper} {Q : Exit → Act → World → Prop} {wr : Wrs} {rd : List (List Nat)} {z : List Ob} {val : Nat → Value → Prop} {w0 : World} {os : List Ob} {a0 : Act} {k : Nat} {o : Oper} {r : List Oper} (h : ∀ a w vs σ, Objs w0 w (σ ++ os) → σ.length = z.length → (∀ s ∈ rd.getD k [], σ[s]? = some (cont wr z s (fun i => decide (i < k)) vs)) → SKnown l val a0 vs k a → RStep P l.toArray Q (SPost wr rd z val w0 os σ vs k) (fun _ _ => True) o a w)
    (hr : SSteps P l Q wr rd z val w0 os a0 (k + 1) r) : SSteps P l Q wr rd z val w0 os a0 k (o :: r) := SSteps.cons h hr
end Go.Proofs.YtppijfjigcoifaaDoor

namespace Go.Proofs.YtppijfjigcoifaaDoor
open Go.RowKit

def cAt (cs : List Cell) (k : Nat) : Cell := cs.getD k cell0
theorem cAt_eq {cs : List Cell} {k : Nat} (h : k < cs.length) : cAt cs k = cs[k] := by simp [cAt, h]
def behindAt (cs : List Cell) : Nat → Bool
 | 0 => false
 | k + 1 => decide ((cAt cs k).width = 2)
def rowAt (cs : List Cell) (k : Nat) : Bool :=
 (cAt cs k).ok && (decide ((cAt cs k).width = 0) == behindAt cs k) && (!behindAt cs k || decide ((cAt cs k).pen = (cAt cs (k - 1)).pen)) && !(decide ((cAt cs k).width = 2) && decide (k + 1 = cs.length))
def rowOk (cs : List Cell) : Bool := (List.range cs.length).all (rowAt cs)
theorem rowOk_yes {cs : List Cell} (h : ∀ k, k < cs.length → rowAt cs k = true) : rowOk cs = true :=
 List.all_eq_true.2 fun k hk => h k (by simpa using hk)

end Go.Proofs.YtppijfjigcoifaaDoor

namespace Go.Proofs.YtppijfjigcoifaaDoor
open Go.RowKit

theorem ok_width {c : Cell} (h : c.ok = true) : c.width = 0 ∨ c.width = 1 ∨ c.width = 2 := by
 have hc := wOf_cases c.rune
 unfold Cell.ok at h
 by_cases hr : c.rune = 0
 ·simp [hr] at h; omega
 ·simp [hr] at h; omega
theorem ok_blank {p : Pen} : (blank p).ok = p.ok := by simp [Cell.ok, blank, Cell.noMarks]
end Go.Proofs.YtppijfjigcoifaaDoor

namespace Go.Proofs.YtppijfjigcoifaaDoor
open Go.RowKit

def fixStep (prev : Option Cell) (c : Cell) (next : Option Cell) : Cell :=
 if c.width = 0 then (if prev.any (fun d => decide (d.width = 2)) = true then spacer (prev.getD cell0).pen else blank c.pen)
 else if c.width = 2 then (if next.any (fun d => decide (d.width = 0)) = true then c else blank c.pen) else c
def fixGo : Option Cell → List Cell → List Cell
 | _, [] => []
 | p, c :: r => fixStep p c r.head? :: fixGo (some (fixStep p c r.head?)) r
def fixL (cs : List Cell) : List Cell := fixGo none cs
theorem OwnC.blk {w : World} {B : Nat} {v : Value} {cs : List Cell} (h : OwnC w B v cs) (hn : 0 < cs.length) : ∃ g cap, v = .slice (some ⟨g, 0, none⟩) cs.length cap ∧ B ≤ g ∧ g < w.heap.size ∧ w.rangeAt g 0 (flat cs) := by
 rcases h.2 with ⟨rfl, h0⟩ | ⟨g, cap, cur, rfl, hb, hg, hnc, hm, hsz, htk⟩
 ·omega
 ·refine ⟨g, cap, rfl, hb, (show Blk w g 71 cur from hg).lt, fun j u hu => ?_⟩
  rw [Nat.zero_add, (show Blk w g 71 cur from hg).cell]
  rw [← htk, List.getElem?_take] at hu
  split at hu
  ·simpa using hu
  ·cases hu
theorem flat_take (cs : List Cell) (k : Nat) : (flat cs).take (k * 16) = flat (cs.take k) := by
 induction cs generalizing k with
 | nil => simp [flat]
 | cons c r ih =>
  cases k with
  | zero => simp [flat]
  | succ k =>
   rw [flat_cons, List.take_succ_cons, flat_cons, ← ih k, List.take_append]
   simp only [Array.length_toList, cv_size]
   rw [List.take_of_length_le (by simp [cv_size]; omega), show (k + 1) * 16 - 16 = k * 16 by omega]
theorem flat_drop (cs : List Cell) (k : Nat) : (flat cs).drop (k * 16) = flat (cs.drop k) := by
 induction cs generalizing k with
 | nil => simp [flat]
 | cons c r ih =>
  cases k with
  | zero => simp
  | succ k =>
   rw [flat_cons, List.drop_succ_cons, ← ih k, List.drop_append]
   simp only [Array.length_toList, cv_size]
   rw [List.drop_eq_nil_of_le (by simp [cv_size]; omega), show (k + 1) * 16 - 16 = k * 16 by omega, List.nil_append]
theorem flat_set (cs : List Cell) (k : Nat) (d : Cell) (h : k < cs.length) : flat (cs.set k d) = (flat cs).take (k * 16) ++ (cv d).toList ++ (flat cs).drop ((k + 1) * 16) := by
 rw [List.set_eq_take_append_cons_drop, if_pos h, flat_append, flat_cons, flat_take, flat_drop, List.append_assoc]
theorem OwnC.put {w : World} {B g cap : Nat} {cs : List Cell} (h : OwnC w B (.slice (some ⟨g, 0, none⟩) cs.length cap) cs) {k : Nat} (hk : k < cs.length) (d : Cell) :
  ∃ W, (storeCells ⟨g, k * 16, none⟩ (cv d).toList 0).run Tryd.prog w = .ok () W ∧ OwnC W B (.slice (some ⟨g, 0, none⟩) cs.length cap) (cs.set k d) ∧ w.grownBy W (some g) := by
 rcases h.2 with ⟨h', _⟩ | ⟨g', cap', cur, h', hb, hg, hnc, hm, hsz, htk⟩
 ·simp at h'
 ·simp only [Value.slice.injEq, Option.some.injEq, Addr.mk.injEq, and_true, true_and] at h'
  obtain ⟨rfl, rfl⟩ := h'
  have hs := run_storeCells_at (P := Tryd.prog) g (k * 16) 71 (cv d).toList 0 cur w hg (by simp [cv_size, hsz]; omega) (cv_one d)
  refine ⟨_, hs, ⟨by rw [flat_length], .inr ⟨g, cap, _, by simp, hb, setRow_heap w g cur _ 71 _ hg, by simpa using hnc, hm, ?_, ?_⟩⟩, ⟨rfl, rfl, rfl, by simp, fun i _ hi => setRow_other w g i _ (fun e => hi (by rw [e]))⟩⟩
  ·simp [cv_size, hsz]; omega
  ·have hX : cur.toList = flat cs ++ cur.toList.drop (cs.length * 16) := by rw [← htk, List.take_append_drop]
   have hl := flat_length cs
   rw [flat_set cs k d hk, hX]
   simp only [List.length_set, Nat.add_zero, Array.length_toList, cv_size]
   rw [List.take_append_of_le_length (l₂ := cur.toList.drop _) (by omega), List.drop_append_of_le_length (by omega), ← List.append_assoc, List.take_left' ?_, show (k + 1) * 16 = k * 16 + 16 by omega]
   simp [cv_size, hl]; omega

end Go.Proofs.YtppijfjigcoifaaDoor

namespace Go.Proofs.YtppijfjigcoifaaDoor
open Go.RowKit

def addM (s : ByteArray) (m : Int) : ByteArray := if m = 0 then s else s ++ Utf8.encode m
def Cell.text (c : Cell) : ByteArray := if c.width = 0 then ⟨#[]⟩ else if c.rune = 0 then ⟨#[32]⟩ else addM (addM (addM (Utf8.encode c.rune) c.m0) c.m1) c.m2

def Cell.runes (c : Cell) : Nat → List Int
 | 0 => [c.rune]
 | 1 => [c.rune] ++ (if c.m0 = 0 then [] else [c.m0])
 | 2 => [c.rune] ++ (if c.m0 = 0 then [] else [c.m0]) ++ (if c.m1 = 0 then [] else [c.m1])
 | _ => [c.rune] ++ (if c.m0 = 0 then [] else [c.m0]) ++ (if c.m1 = 0 then [] else [c.m1]) ++ (if c.m2 = 0 then [] else [c.m2])
def OwnI (w : World) (B : Nat) (v : Value) (l : List Int) : Prop := w.ownsRow B 21 1 v l.length (l.map (.int .i32))
theorem OwnI.one (w : World) (B : Nat) (r : Int) (hB : B ≤ w.heap.size) : OwnI (w.alloc (.cells #[.int .i32 r] 21)) B (.slice (some ⟨w.heap.size, 0, none⟩) 1 1) [r] :=
 ⟨by simp, .inr ⟨w.heap.size, 1, _, rfl, hB, heap_alloc_new w _, Nat.le_refl _, by simp [maxLen], by simp, by simp⟩⟩
theorem OwnI.text {w : World} {B : Nat} {v : Value} {l : List Int} (h : OwnI w B v l) (hl : 0 < l.length) : (convert 76 9 v).run Tryd.prog w = .ok (.string (runesBytes l)) w := by
 obtain ⟨g, cap, rfl, _, _⟩ := h.form hl
 have := run_convert_runes (P := Tryd.prog) w 76 9 21 ⟨g, 0, none⟩ l.length cap l (Nat.le_refl _) Tryd.underlying76 Tryd.underlying21 Tryd.underlying9
  (fun j hj => by
   have := h.cells (g := g) rfl j (.int .i32 (l.getD j 0)) (by simp [hj])
   exact this)
 rw [this, List.take_of_length_le (Nat.le_refl _)]
theorem OwnI.lt {w : World} {B : Nat} {v : Value} {l : List Int} (h : OwnI w B v l) : ∀ k, v.ownBlock = some k → B ≤ k := fun k hk => (World.ownsRow.lt h k hk).1

end Go.Proofs.YtppijfjigcoifaaDoor

namespace Go.Proofs.YtppijfjigcoifaaDoor
open Go.RowKit

theorem rowOk_at {cs : List Cell} (h : rowOk cs = true) {k : Nat} (hk : k < cs.length) : rowAt cs k = true := List.all_eq_true.1 h k (by simp [hk])
theorem enc_pos (r : Int) : 0 < (Utf8.encode r).size := by
 unfold Utf8.encode
 simp only
 generalize (if Utf8.valid r = true then r.toNat else Utf8.runeError) = c
 split
 ·exact Nat.le_of_ble_eq_true rfl
 ·split
  ·exact Nat.le_of_ble_eq_true rfl
  ·split <;> exact Nat.le_of_ble_eq_true rfl
theorem mark_holds {c x : Cell} {m : Int} (hc : c.ok = true) (h : markOf c m = (x, 0)) : x.ok = true ∧ x.nMarks = c.nMarks + 1 ∧ c.nMarks < 3 ∧ c.text.size < x.text.size := by
 have hm0 : ¬ (c.ok = false ∨ ¬ wOf m = 0) := fun hh => by simp [markOf, hh] at h
 have hwm : wOf m = 0 := by by_cases hh : wOf m = 0; exact hh; exact absurd (.inr hh) hm0
 have hr : ¬ c.rune = 0 := fun hh => by simp [markOf, hm0, hh] at h
 have hm : ¬ m = 0 := fun hh => by rw [hh, wOf_zero] at hwm; omega
 have hep := enc_pos m
 have ho := hc
 rw [Cell.ok, if_neg hr] at ho
 simp only [Bool.and_eq_true, decide_eq_true_eq] at ho
 obtain ⟨hp, hmk, hw, hwo⟩ := ho
 simp only [Cell.marksOk, Cell.mOk, Bool.and_eq_true, Bool.or_eq_true, decide_eq_true_eq, Bool.not_eq_true', decide_eq_false_iff_not] at hmk
 obtain ⟨⟨k0, k1⟩, k2⟩ := hmk
 rw [markOf, if_neg hm0, if_neg hr] at h
 by_cases z0 : c.m0 = 0
 ·rw [if_pos z0] at h
  obtain rfl := (Prod.mk.inj h).1
  have z1 : c.m1 = 0 := by rcases k1 with h | h; exact h; exact absurd z0 h.2
  have z2 : c.m2 = 0 := by rcases k2 with h | h; exact h; exact absurd z1 h.2
  refine ⟨?_, by simp [Cell.nMarks, z0, z1, hm], by simp [Cell.nMarks, z0], ?_⟩
  ·simp [Cell.ok, hr, hp, Cell.marksOk, Cell.mOk, hwm, z1, z2, hw, ← hwo]
  ·have : ¬ c.width = 0 := by omega
   simp only [Cell.text, this, if_false, hr, addM, z0, z1, z2, hm, if_true, ByteArray.size_append]
   omega
 ·rw [if_neg z0] at h
  by_cases z1 : c.m1 = 0
  ·rw [if_pos z1] at h
   obtain rfl := (Prod.mk.inj h).1
   have z2 : c.m2 = 0 := by rcases k2 with h | h; exact h; exact absurd z1 h.2
   refine ⟨?_, by simp [Cell.nMarks, z0, z1, z2, hm], by simp [Cell.nMarks, z0, z1], ?_⟩
   ·have : wOf c.m0 = 0 := by rcases k0 with h | h; exact absurd h z0; exact h
    simp [Cell.ok, hr, hp, Cell.marksOk, Cell.mOk, hwm, z0, z2, hw, ← hwo, this]
   ·have : ¬ c.width = 0 := by omega
    simp only [Cell.text, this, if_false, hr, addM, z0, z1, z2, hm, if_true, ByteArray.size_append]
    omega
  ·rw [if_neg z1] at h
   by_cases z2 : c.m2 = 0
   ·rw [if_pos z2] at h
    obtain rfl := (Prod.mk.inj h).1
    refine ⟨?_, by simp [Cell.nMarks, z0, z1, z2, hm], by simp [Cell.nMarks, z0, z1, z2], ?_⟩
    ·have w0 : wOf c.m0 = 0 := by rcases k0 with h | h; exact absurd h z0; exact h
     have w1 : wOf c.m1 = 0 := by rcases k1 with h | h; exact absurd h z1; exact h.1
     simp [Cell.ok, hr, hp, Cell.marksOk, Cell.mOk, hwm, z0, z1, hw, ← hwo, w0, w1]
    ·have : ¬ c.width = 0 := by omega
     simp only [Cell.text, this, if_false, hr, addM, z0, z1, z2, hm, if_true, ByteArray.size_append]
     omega
   ·rw [if_neg z2] at h
    have := (Prod.mk.inj h).2
    omega
end Go.Proofs.YtppijfjigcoifaaDoor

namespace Go.Proofs.YtppijfjigcoifaaDoor
open Go.RowKit

def putAt (at_ : Nat) (ds cs : List Cell) : List Cell := fixL (cs.take at_) ++ ds ++ fixL (cs.drop (at_ + ds.length))
end Go.Proofs.YtppijfjigcoifaaDoor

namespace Go.Proofs.YtppijfjigcoifaaDoor
open Go.RowKit

theorem own_elem {w : World} {g : Nat} {l : List Cell} (h : w.rangeAt g 0 (flat l)) {k : Nat} (hk : k < l.length) {c : Cell} (hc : l[k] = c) :
  w.cell? ⟨g, k * 16 + 4, none⟩ = some (.int .i64 c.width) ∧ penAt w g (k * 16 + 5) = some c.pen ∧ cellAt w g (k * 16) = some c := by
 have h1 := elem_width h hk
 have h2 := elem_pen h hk
 have h3 := elem_cell h hk
 rw [Nat.zero_add] at h1 h2 h3
 rw [hc] at h1 h2 h3
 exact ⟨h1, h2, h3⟩
theorem OwnC.head {w : World} {B n c : Nat} {A : Option Addr} {cs : List Cell} (h : OwnC w B (.slice A n c) cs) (hn : 0 < cs.length) : ∃ g, A = some ⟨g, 0, none⟩ ∧ n = cs.length ∧ B ≤ g ∧ g < w.heap.size ∧ w.rangeAt g 0 (flat cs) := by
 obtain ⟨g, cap, hv, h1, h2, h3⟩ := h.blk hn
 simp only [Value.slice.injEq] at hv
 exact ⟨g, hv.1, hv.2.1, h1, h2, h3⟩
theorem OwnC.putAt {w : World} {B g n cap : Nat} {cs : List Cell} (h : OwnC w B (.slice (some ⟨g, 0, none⟩) n cap) cs) {k : Nat} (hk : k < cs.length) (d : Cell) :
  ∃ W, (storeCells ⟨g, k * 16, none⟩ (cv d).toList 0).run Tryd.prog w = .ok () W ∧ OwnC W B (.slice (some ⟨g, 0, none⟩) n cap) (cs.set k d) ∧ w.grownBy W (some g) := by
 obtain ⟨_, _, rfl, _⟩ := h.head (by omega)
 exact h.put hk d

end Go.Proofs.YtppijfjigcoifaaDoor

namespace Go.Proofs.YtppijfjigcoifaaDoor
open Go.RowKit

theorem RdC.one (w : World) (d : Cell) : RdC (w.alloc (.cells (cv d) 71)) (some ⟨w.heap.size, 0, none⟩) 1 [d] :=
 ⟨Nat.le_refl _, (fun h => by cases h), fun _ => ⟨w.heap.size, 0, rfl, by simp, by have := rangeAt_new w (cv d) 71; simpa [flat] using this⟩⟩
end Go.Proofs.YtppijfjigcoifaaDoor

namespace Go.Proofs.YtppijfjigcoifaaDoor
open Go.RowKit

theorem upto_eq {xs ys : List Cell} (hl : xs.length = ys.length) (h : ∀ k, k < xs.length → xs[k]? = ys[k]?) : xs = ys := by
 apply List.ext_getElem? fun k => ?_
 rcases Nat.lt_or_ge k xs.length with hk | hk
 ·exact h k hk
 ·rw [List.getElem?_eq_none hk, List.getElem?_eq_none (by omega)]

end Go.Proofs.YtppijfjigcoifaaDoor

namespace Go.Proofs.YtppijfjigcoifaaDoor
open Go.RowKit

def okBlk (w : World) (b n : Nat) (t : TypeId) : Bool := match w.heap[b]? with
 | some (.cells zs u fr) => decide (zs.size = n) && decide (u = t) && decide (fr = (0, 0))
 | _ => false
theorem okBlk_iff {w : World} {b n : Nat} {t : TypeId} : okBlk w b n t = true ↔ ∃ zs, Blk w b t zs ∧ zs.size = n := by
 unfold okBlk Blk
 constructor
 ·intro h
  split at h
  ·rename_i zs u fr hb
   simp only [Bool.and_eq_true, decide_eq_true_eq] at h
   obtain ⟨⟨h1, rfl⟩, rfl⟩ := h
   exact ⟨zs, hb, h1⟩
  ·cases h
 ·rintro ⟨zs, hb, hz⟩
  simp [hb, hz]
theorem Blk.okBlk {w : World} {b : Nat} {t : TypeId} {cs : Array Value} (h : Blk w b t cs) : okBlk w b cs.size t = true := okBlk_iff.2 ⟨cs, h, rfl⟩
@[go_sem] theorem okBlk_alloc (w : World) (o : Obj) (b n : Nat) (t : TypeId) (h : b < w.heap.size) : okBlk (w.alloc o) b n t = okBlk w b n t := by
 unfold okBlk; rw [Below.heap_alloc w o b h]
@[go_sem] theorem okBlk_new {b : Nat} (w : World) (cs : Array Value) (t : TypeId) (n : Nat) (hb : b = w.heap.size) : okBlk (w.alloc (.cells cs t)) b n t = decide (cs.size = n) := by
 subst hb; unfold okBlk; rw [heap_alloc_new]; simp
@[go_sem] theorem setRow_alloc_lt (w : World) (o : Obj) (g : Nat) (cs : Array Value) (h : g < w.heap.size) : (w.alloc o).setRow g cs = (w.setRow g cs).alloc o := by
 simp only [World.setRow, World.alloc]
 congr 1
 apply Array.ext_getElem?
 intro i
 simp only [Array.getElem?_modify, Array.getElem?_push, Array.size_modify]
 by_cases hi : g = i
 ·subst hi; simp [show ¬ g = w.heap.size by omega]
 ·simp [hi]
@[go_sem] theorem setRow_alloc_at {b : Nat} (w : World) (c c' : Array Value) (t : TypeId) (hb : b = w.heap.size) : (w.alloc (.cells c t)).setRow b c' = w.alloc (.cells c' t) := by
 subst hb; exact World.setRow_alloc_new w c c' t
@[go_sem] theorem okBlk_drew (w : World) (b n : Nat) (t : TypeId) : okBlk w.drew b n t = okBlk w b n t := rfl
@[go_sem] theorem setRow_drew (w : World) (g : Nat) (cs : Array Value) : w.drew.setRow g cs = (w.setRow g cs).drew := rfl
@[go_sem] theorem store_cv_any (w : World) (b : Nat) (c : Cell) (h : okBlk w b 16 71 = true) : (storeCells ⟨b, 0, none⟩ (cv c).toList 0).run Tryd.prog w = .ok () (w.setRow b (cv c)) := by
 obtain ⟨zs, hb, hz⟩ := okBlk_iff.1 h
 exact store_cv_row w b zs c hb hz
@[go_sem] theorem store_pv_any (w : World) (b : Nat) (p : Pen) (h : okBlk w b 11 54 = true) : (storeCells ⟨b, 0, none⟩ (pv p).toList 0).run Tryd.prog w = .ok () (w.setRow b (pv p)) := by
 obtain ⟨zs, hb, hz⟩ := okBlk_iff.1 h
 have := run_storeCells_at (P := Tryd.prog) b 0 54 (pv p).toList 0 zs w hb (by simp [pv_size, hz]) (pv_one p)
 rw [this]
 simp [pv_size, List.drop_eq_nil_of_le, hz]
theorem cv_putPen (c : Cell) (p : Pen) : ((cv c).toList.take 5 ++ (pv p).toList ++ (cv c).toList.drop 16).toArray = cv { c with pen := p } := by simp [cv, pv]
@[go_sem] theorem store_pen_new {b : Nat} (w : World) (c : Cell) (p : Pen) (hb : b = w.heap.size) : (storeCells ⟨b, 5, none⟩ (pv p).toList 0).run Tryd.prog (w.alloc (.cells (cv c) 71)) = .ok () (w.alloc (.cells (cv { c with pen := p }) 71)) := by
 subst hb
 have := run_storeCells_at (P := Tryd.prog) w.heap.size 5 71 (pv p).toList 0 (cv c) _ (heap_alloc_new w (.cells (cv c) 71)) (by simp [pv_size, cv_size]) (pv_one p)
 rw [this]
 simp only [Nat.add_zero, Array.length_toList, pv_size]
 rw [cv_putPen, World.setRow_alloc_new]

@[simp high, go_sem high] theorem pv_set10 (p : Pen) (n : Int) : (pv p).setIfInBounds 10 (.int .u8 n) = pv { p with fl := n } := by simp [pv]
def fv (cs : List Cell) : Array Value := (flat cs).toArray
theorem RdC.lit (w : World) (cs : List Cell) : RdC (w.alloc (.cells (fv cs) 71)) (some ⟨w.heap.size, 0, none⟩) cs.length cs :=
 ⟨Nat.le_refl _, (fun h => by cases h), fun _ => ⟨w.heap.size, 0, rfl, by simp, by have := rangeAt_new w (fv cs) 71; simpa [fv] using this⟩⟩
theorem OwnC.lit (w : World) (B : Nat) (cs : List Cell) (hB : B ≤ w.heap.size) (hn : cs.length ≤ 1000000) : OwnC (w.alloc (.cells (fv cs) 71)) B (.slice (some ⟨w.heap.size, 0, none⟩) cs.length cs.length) cs :=
 ⟨flat_length cs, .inr ⟨w.heap.size, cs.length, fv cs, rfl, hB, heap_alloc_new w _, Nat.le_refl _, by simp only [maxLen]; omega, by simp [fv, flat_length], by simp [fv, flat_length, List.take_of_length_le]⟩⟩
section
variable {ops : Array Oper} {rest : List Oper} {o : Oper} {a : Act} {w : World} {Q : Exit → Act → World → Prop}
theorem wpList_run {w' : World} {v : Value} (hw : Region.wanted o (yielded ops a.tmps) = true) (hr : (execOp a.eval o).run Tryd.prog w = .ok (.value v) w') (h : wpList Tryd.prog ops Q rest (a.put o.dst v) w') : wpList Tryd.prog ops Q (o :: rest) a w := by
 refine wpList_step fun K hK => ?_
 rw [if_pos hw]
 unfold Oper.wp
 rw [hr]
 exact hK _ _ h
theorem exec_bs {n : Nat} {parts : Array (Nat × Operand)} {vs : Array (Nat × Value)} {v : Value} {w' : World} (ho : o.op = .buildSlice 37 n parts) (hv : (parts.map fun (i, x) => (i, a.eval x)) = vs) (hr : (Instr.buildSlice 37 n vs).run Tryd.prog w = .ok v w') : (execOp a.eval o).run Tryd.prog w = .ok (.value v) w' := by
 subst hv
 unfold execOp
 simp only [ho, Sem.run_bind, hr, Result.andThen_ok, Sem.run_pure]
theorem run_bs1 (c0 : Cell) (w : World) : (Instr.buildSlice 37 1 #[(0, .agg (cv c0))]).run Tryd.prog w = .ok (.slice (some ⟨w.heap.size, 0, none⟩) 1 1) (w.alloc (.cells (fv [c0]) 71)) := by kernel_rfl
theorem wpList_bs1 (hw : Region.wanted o (yielded ops a.tmps) = true) (x0 : Operand) (ho : o.op = .buildSlice 37 1 #[(0, x0)]) (c0 : Cell) (h0 : a.eval x0 = .agg (cv c0))
  (h : wpList Tryd.prog ops Q rest (a.put o.dst (.slice (some ⟨w.heap.size, 0, none⟩) 1 1)) (w.alloc (.cells (fv [c0]) 71))) : wpList Tryd.prog ops Q (o :: rest) a w :=
 wpList_run hw (exec_bs ho (by simp [h0]) (run_bs1 c0 w)) h
end
end Go.Proofs.YtppijfjigcoifaaDoor

namespace Go.Proofs.YtppijfjigcoifaaDoor
open Go.RowKit

theorem bel1 {w w1 : World} {o : Obj} (h : Below (w.alloc o).heap.size (w.alloc o) w1) : Below w.heap.size w w1 := ((Below.refl _ _).alloc (Nat.le_refl _) o).trans (h.mono (by simp))
theorem belA (w : World) (o : Obj) : Below w.heap.size w (w.alloc o) := (Below.refl _ _).alloc (Nat.le_refl _) o
theorem box2 {w w2 : World} {c d : Array Value} {t u : TypeId} (hb : Below ((w.alloc (.cells c t)).alloc (.cells d u)).heap.size ((w.alloc (.cells c t)).alloc (.cells d u)) w2) : Blk w2 w.heap.size t c ∧ Blk w2 (w.heap.size + 1) u d ∧ Below w.heap.size w w2 :=
 ⟨((Blk.new w t c).alloc _).bel hb, by have := (Blk.new (w.alloc (.cells c t)) u d).bel hb; simpa using this, bel1 (bel1 hb)⟩

def OwnEnd (l : List Cell) (w : World) (e : Ending) (w' : World) : Prop := ∃ v, e = .returned v ∧ OwnC w' w.heap.size v l ∧ Below w.heap.size w w'
theorem OwnC.none1 (w : World) (B : Nat) (hB : B ≤ w.heap.size) : OwnC (w.alloc (.cells #[] 71)) B (.slice (some ⟨w.heap.size, 0, none⟩) 0 0) [] :=
 ⟨by simp [flat], .inr ⟨w.heap.size, 0, #[], rfl, hB, heap_alloc_new w _, Nat.le_refl _, by simp [maxLen], by simp, by simp [flat]⟩⟩
theorem eql_nilC (w : World) (a : Option Addr) (n c : Nat) : (binOp .eql 37 (.slice a n c) (.slice none 0 0)).run Tryd.prog w = .ok (.bool a.isNone) w := Lib.run_eql_slice_nil w 37 71 a n c 0 0 Tryd.underlying37
set_option maxRecDepth 100000 in
set_option maxHeartbeats 400000 in
theorem clone_any (A : Option Addr) (c : Nat) (cs : List Cell) (w : World) (ha : RdC w A c cs) (hn : cs.length ≤ 1000000) :
  Calls Tryd.prog 91 #[.slice A cs.length c] w (OwnEnd cs w) := by
 have HA := Lib.hid ha
 have hq := eql_nilC
 cases A with
 | none =>
  obtain rfl := ha.2.1 rfl
  obtain rfl : cs = [] := List.eq_nil_of_length_eq_zero (by have := ha.1; omega)
  clear ha
  go_enter Tryd.func91, Tryd.ntmps91
  go_wp2_with fail
  go_ret
  exact ⟨_, rfl, OwnC.nil _ _, Below.refl _ _⟩
 | some ad =>
  clear ha
  go_enter Tryd.func91, Tryd.ntmps91
  go_wp2_with (at_builtin; (refine wpList_appC rfl _ _ rfl w.heap.size (.slice (some ⟨w.heap.size, 0, none⟩) 0 0) [] rfl (OwnC.none1 w _ (Nat.le_refl _)) (some ad) c cs rfl (HA.out.alloc _) (by simp; omega) (by simp) ?_); intro v1 w1 hown1 hg1 hat1; rw [List.nil_append] at hown1; have HO := Lib.hid hown1; have HB := Lib.hid ((belA w (.cells #[] 71)).grown hg1 (by simp) (by simp [Value.ownBlock])); clear hown1 hg1 hat1)
  go_ret
  exact ⟨_, rfl, HO.out, HB.out⟩

end Go.Proofs.YtppijfjigcoifaaDoor

namespace Go.Proofs.YtppijfjigcoifaaDoor
open Go.RowKit

def over (xs : List Value) (i : Nat) (vs : List Value) : List Value := xs.take i ++ (vs ++ xs.drop (i + vs.length))
theorem over_length {xs : List Value} {i : Nat} {vs : List Value} (h : i + vs.length ≤ xs.length) : (over xs i vs).length = xs.length := by simp [over]; omega
section
variable {P : Program} {w : World} {B g n k cap : Nat} {t : TypeId} {xs : List Value}
theorem own_parts (h : w.ownsRow B t k (.slice (some ⟨g, 0, none⟩) n cap) n xs) : xs.length = n * k ∧ B ≤ g ∧ n ≤ cap ∧ cap ≤ maxLen ∧ ∃ cur, w.heap[g]? = some (.cells cur t (0, 0)) ∧ cur.size = cap * k ∧ cur.toList.take xs.length = xs := by
 rcases h with ⟨h1, ⟨h', _⟩ | ⟨g', cap', cur, h', hb, hg, hnc, hm, hsz, htk⟩⟩
 ·simp at h'
 ·simp only [Value.slice.injEq, Option.some.injEq, Addr.mk.injEq, and_true, true_and] at h'
  obtain ⟨rfl, rfl⟩ := h'
  exact ⟨h1, hb, hnc, hm, cur, hg, hsz, by rw [h1]; exact htk⟩
theorem own_mk (h1 : xs.length = n * k) (hb : B ≤ g) (hn : n ≤ cap) (hm : cap ≤ maxLen) {cur : Array Value} (hg : w.heap[g]? = some (.cells cur t (0, 0))) (hsz : cur.size = cap * k) (htk : cur.toList.take xs.length = xs) : w.ownsRow B t k (.slice (some ⟨g, 0, none⟩) n cap) n xs :=
 ⟨h1, .inr ⟨g, cap, cur, rfl, hb, hg, hn, hm, hsz, by rw [← h1]; exact htk⟩⟩
theorem grown_setRow (w : World) (g : Nat) (cs : Array Value) : w.grownBy (w.setRow g cs) (some g) := ⟨rfl, rfl, rfl, by simp [World.setRow], fun i _ hi => setRow_other w g i _ (fun e => hi (by rw [e]))⟩
theorem over_take {cur : List Value} {i : Nat} {vs : List Value} (htk : cur.take xs.length = xs) (hi : i + vs.length ≤ xs.length) : (cur.take i ++ vs ++ cur.drop (i + vs.length)).take (over xs i vs).length = over xs i vs := by
 have hX : cur = xs ++ cur.drop xs.length := by conv => lhs; rw [← List.take_append_drop xs.length cur, htk]
 rw [over_length hi]
 rw [hX, List.take_append_of_le_length (l₂ := cur.drop _) (by omega), List.drop_append_of_le_length (by omega), ← List.append_assoc]
 rw [show xs.take i ++ vs ++ xs.drop (i + vs.length) = over xs i vs from by simp [over]]
 rw [← over_length hi, List.take_left']
 rfl
theorem own_cell (h : w.ownsRow B t k (.slice (some ⟨g, 0, none⟩) n cap) n xs) (i : Nat) (v : Value) (hi : xs[i]? = some v) : w.cell? ⟨g, i, none⟩ = some v := by
 obtain ⟨hl, hb, hnc, hm, cur, hg, hsz, htk⟩ := own_parts h
 rw [cell_of_row _ _ _ _ _ _ hg]
 rw [← htk, List.getElem?_take] at hi
 split at hi
 ·simpa using hi
 ·cases hi
theorem run_copyK (w : World) (dT sT ty e : TypeId) (g o dLen dCap : Nat) (a : Addr) (sLen sCap k : Nat) (cur : Array Value) (t : TypeId) (cs : List Value)
  (hu : P.underlying dT = some (.slice e)) (hs : (P.info? e).map (·.size) = some k)
  (hg : w.heap[g]? = some (.cells cur t (0, 0))) (hn : cs.length = Nat.min sLen dLen * k)
  (hsrc : ∀ j v, cs[j]? = some v → w.cell? (a.add j) = some v) (hfit : o + cs.length ≤ cur.size) (h1 : ∀ v ∈ cs, v.oneCell' = true) :
  (Builtin.copy_ #[dT, sT] ty #[.slice (some ⟨g, o, none⟩) dLen dCap, .slice (some a) sLen sCap]).run P w =
   .ok (goInt (Nat.min sLen dLen)) (w.setRow g (cur.toList.take o ++ cs ++ cur.toList.drop (o + cs.length)).toArray) := by
 have hl := run_loadCells_list (P := P) w a cs hsrc
 have hst := run_storeCells_at P g o t cs 0 cur w hg (by simpa using hfit) h1
 cases hq : P.info? e with
 | none => simp [hq] at hs
 | some i =>
  have hi : i.size = k := by simpa [hq] using hs
  simp [Builtin.copy_, run_underlying hu, Builtin.lenOf, Builtin.firstCells, sizeOf, typeInfo, hq, hi, ← hn, hl, hst]
theorem run_copyK_none (w : World) (dT sT ty e : TypeId) (dp sp : Option Addr) (dLen dCap sLen sCap k : Nat) (hu : P.underlying dT = some (.slice e)) (hs : (P.info? e).map (·.size) = some k) (h0 : Nat.min sLen dLen = 0) :
  (Builtin.copy_ #[dT, sT] ty #[.slice dp dLen dCap, .slice sp sLen sCap]).run P w = .ok (goInt 0) w := by
 cases hq : P.info? e with
 | none => simp [hq] at hs
 | some i =>
  have hi : i.size = k := by simpa [hq] using hs
  cases sp <;> cases dp <;> simp [Builtin.copy_, run_underlying hu, Builtin.lenOf, Builtin.firstCells, sizeOf, typeInfo, hq, hi, h0, loadCells, loadCellsFrom, storeCells]
theorem own_copy (h : w.ownsRow B t k (.slice (some ⟨g, 0, none⟩) n cap) n xs) (dT sT ty : TypeId) (hu : P.underlying dT = some (.slice t)) (hs : (P.info? t).map (·.size) = some k)
  (dp sp : Option Addr) (dLen dCap sLen sCap : Nat) (i : Nat) (vs : List Value) (hn : vs.length = Nat.min sLen dLen * k) (hi : i + vs.length ≤ xs.length)
  (hpos : 0 < Nat.min sLen dLen → dp = some ⟨g, i, none⟩ ∧ ∃ ad, sp = some ad ∧ ∀ j v, vs[j]? = some v → w.cell? (ad.add j) = some v) (h1 : ∀ v ∈ vs, v.oneCell' = true) :
  ∃ W, (Builtin.copy_ #[dT, sT] ty #[.slice dp dLen dCap, .slice sp sLen sCap]).run P w = .ok (goInt (Nat.min sLen dLen)) W ∧ W.ownsRow B t k (.slice (some ⟨g, 0, none⟩) n cap) n (over xs i vs) ∧ w.grownBy W (some g) := by
 by_cases h0 : Nat.min sLen dLen = 0
 ·have : vs = [] := List.eq_nil_of_length_eq_zero (by rw [hn, h0]; simp)
  subst this
  exact ⟨w, by rw [run_copyK_none w dT sT ty t dp sp dLen dCap sLen sCap k hu hs h0, h0]; rfl, by simpa [over] using h, World.grownBy.refl _ _⟩
 ·obtain ⟨rfl, ad, rfl, hsrc⟩ := hpos (by omega)
  obtain ⟨hl, hb, hnc, hm, cur, hg, hsz, htk⟩ := own_parts h
  have hcl : xs.length ≤ cur.size := by rw [hl, hsz]; exact Nat.mul_le_mul_right k hnc
  refine ⟨_, run_copyK w dT sT ty t g i dLen dCap ad sLen sCap k cur t vs hu hs hg hn hsrc (by omega) h1, own_mk (by rw [over_length hi]; exact hl) hb hnc hm (setRow_heap w g cur _ t _ hg) (by simp; omega) (over_take htk hi), grown_setRow _ _ _⟩
end
end Go.Proofs.YtppijfjigcoifaaDoor
