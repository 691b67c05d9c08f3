/-
  Part 2 of the texts on which the proofs of this seat stand: each part says ahead of it what it shows.
-/
import Derived.Test.YtdndoikgnohkkaaDoorA1
import Derived.Lib.MinMax
import Derived.Deep.DeepAppendRoom
import Derived.Laws.OwnMore
set_option linter.unusedSimpArgs false
set_option linter.unusedVariables false
namespace Go.Proofs.YtdndoikgnohkkaaDoor
open Go.RowKit

theorem gd {xs : Array Value} {i : Nat} {v : Value} (h : xs.getD i undef = v) : xs[i]?.getD undef = v := by rw [← Array.getD_eq_getD_getElem?]; exact h
theorem RdC.old {w : World} {A : Option Addr} {c : Nat} {cs : List Cell} (h : RdC w A c cs) (hn : 0 < cs.length) : ∀ ad, A = some ad → ad.block < w.heap.size := fun ad e => by
 obtain ⟨b, off, e', hlt, _⟩ := h.2.2 hn
 rw [e] at e'
 cases e'
 exact hlt
end Go.Proofs.YtdndoikgnohkkaaDoor

namespace Go.Proofs.YtdndoikgnohkkaaDoor
open Go.RowKit

def Sr.line (B : Nat) (cs : List Cell) (s : Bool) : Sr := ⟨fun u w => ∃ v, u = .agg #[v, .bool s] ∧ OwnC w B v cs, fun _ _ _ ⟨v, h1, h2⟩ hb => ⟨v, h1, h2.bel hb⟩⟩
def Sr.box (B g : Nat) (cs : List Cell) (s : Bool) : Sr := ⟨fun _ w => ∃ v, Blk w g 86 #[v, .bool s] ∧ OwnC w B v cs, fun _ _ _ ⟨v, h1, h2⟩ hb => ⟨v, h1.bel hb, h2.bel hb⟩⟩
end Go.Proofs.YtdndoikgnohkkaaDoor

namespace Go.Proofs.YtdndoikgnohkkaaDoor
open Go.RowKit

def RdL (w : World) (A : Option Addr) (c : Nat) (L : List Ln) : Prop := L.length ≤ c ∧ (A = none → c = 0) ∧ (0 < L.length → ∃ b off, A = some ⟨b, off, none⟩ ∧ b < w.heap.size ∧
 ∀ (i : Nat) (l : Ln), L[i]? = some l → ∃ A' c', w.cell? ⟨b, off + i * 2, none⟩ = some (.slice A' l.1.length c') ∧ w.cell? ⟨b, off + i * 2 + 1, none⟩ = some (.bool l.2) ∧ RdC w A' c' l.1)
section
variable {w w' : World} {A : Option Addr} {c : Nat} {L : List Ln}
theorem RdL.bel (h : RdL w A c L) (hb : Below w.heap.size w w') : RdL w' A c L := ⟨h.1, h.2.1, fun hn => by
 obtain ⟨b, off, rfl, hz, hr⟩ := h.2.2 hn
 refine ⟨b, off, rfl, by have := hb.size; omega, fun i l hl => ?_⟩
 obtain ⟨A', c', h1, h2, h3⟩ := hr i l hl
 exact ⟨A', c', (hb.cell (p := ⟨b, off + i * 2, none⟩) hz).trans h1, (hb.cell (p := ⟨b, off + i * 2 + 1, none⟩) hz).trans h2, h3.bel hb⟩⟩
theorem RdL.at_ (h : RdL w A c L) {i : Nat} {l : Ln} (hl : L[i]? = some l) : ∃ b off A' c', A = some ⟨b, off, none⟩ ∧ b < w.heap.size ∧ w.cell? ⟨b, off + i * 2, none⟩ = some (.slice A' l.1.length c') ∧ w.cell? ⟨b, off + i * 2 + 1, none⟩ = some (.bool l.2) ∧ RdC w A' c' l.1 := by
 have hi : i < L.length := (List.getElem?_eq_some_iff.1 hl).1
 obtain ⟨b, off, rfl, hz, hr⟩ := h.2.2 (by omega)
 obtain ⟨A', c', h1, h2, h3⟩ := hr i l hl
 exact ⟨b, off, A', c', rfl, hz, h1, h2, h3⟩
theorem RdL.nil (w : World) : RdL w none 0 [] := ⟨by simp, fun _ => rfl, fun h => by simp at h⟩
end
section
variable {w0 w w' : World} {os : List Ob} {v : Value} {bs : List Value} {L : List Ln} {m : Option Nat}
theorem own_form {B k n : Nat} {t : TypeId} {xs : List Value} (h : w.ownsRow B t k v n xs) : ∃ A c, v = .slice A n c ∧ n ≤ c ∧ c ≤ maxLen ∧ (A = none → c = 0) ∧ (0 < n → ∃ g, A = some ⟨g, 0, none⟩ ∧ g < w.heap.size ∧ (∀ j, j < n * k → w.cell? ⟨g, j, none⟩ = xs[j]?) ∧ ∀ j, w.frozen? ⟨g, j, none⟩ = false) := by
 rcases h.2 with ⟨rfl, h0⟩ | ⟨g, cap, cur, rfl, hb, hg, hnc, hm, hsz, htk⟩
 ·subst h0
  exact ⟨none, 0, rfl, Nat.le_refl _, by simp [maxLen], fun _ => rfl, fun h => by omega⟩
 ·refine ⟨_, cap, rfl, hnc, hm, (fun h => by cases h), fun hn => ⟨g, rfl, (show Blk w g t cur from hg).lt, fun j hj => ?_, fun j => (show Blk w g t cur from hg).frozen j⟩⟩
  rw [(show Blk w g t cur from hg).cell, ← htk, List.getElem?_take, if_pos hj]
  simp
theorem LinesAt.form (h : LinesAt w v bs L m) : ∃ A c, v = .slice A L.length c ∧ L.length ≤ c ∧ c ≤ maxLen ∧ (A = none → c = 0) ∧ (0 < L.length → ∃ g, A = some ⟨g, 0, none⟩ ∧ g < w.heap.size ∧ (∀ i b, bs[i]? = some b → w.cell? ⟨g, i * 2, none⟩ = some b) ∧ (∀ i l, L[i]? = some l → w.cell? ⟨g, i * 2 + 1, none⟩ = some (.bool l.2)) ∧ ∀ j, w.frozen? ⟨g, j, none⟩ = false) := by
 obtain ⟨A, c, rfl, h1, h2, h3, h4⟩ := own_form h.own
 refine ⟨A, c, rfl, h1, h2, h3, fun hn => ?_⟩
 obtain ⟨g, rfl, h5, h6, h7⟩ := h4 hn
 refine ⟨g, rfl, h5, fun i b hb => ?_, fun i l hl => ?_, h7⟩
 ·have hi : i < L.length := by rw [← h.len]; exact (List.getElem?_eq_some_iff.1 hb).1
  rw [h6 _ (by omega), hdrs_at0 h.len, hb]
 ·have hi : i < L.length := (List.getElem?_eq_some_iff.1 hl).1
  rw [h6 _ (by omega), hdrs_at1 h.len, hl]
  rfl
theorem LinesAt.rd (h : LinesAt w v bs L none) : ∃ A c, v = .slice A L.length c ∧ c ≤ maxLen ∧ RdL w A c L := by
 obtain ⟨A, c, rfl, h1, h2, h3, h4⟩ := h.form
 refine ⟨A, c, rfl, h2, h1, h3, fun hn => ?_⟩
 obtain ⟨g, rfl, h5, h6, h7, h8⟩ := h4 hn
 refine ⟨g, 0, rfl, h5, fun i l hl => ?_⟩
 have hi : i < L.length := (List.getElem?_eq_some_iff.1 hl).1
 have hb : bs[i]? = some (bs[i]'(by rw [h.len]; exact hi)) := by simp [h.len, hi]
 have ho := h.rows i _ l (by simp) hb hl
 obtain ⟨A', c', e, hr⟩ := ho.form
 refine ⟨A', c', ?_, ?_, hr⟩
 ·rw [Nat.zero_add, h6 i _ hb, e]
 ·rw [Nat.zero_add]; exact h7 i l hl
theorem Objs.linesRd (h : Objs w0 w os) {k : Nat} (hk : os[k]? = some (.lines v L)) : ∃ A c, v = .slice A L.length c ∧ c ≤ maxLen ∧ RdL w A c L := by
 obtain ⟨F, bs, hF, _⟩ := h.get hk
 exact hF.rd
theorem Objs.gridRd (h : Objs w0 w os) {k p : Nat} {t : TypeId} {cols : Int} (hk : os[k]? = some (.grid p t cols L)) : ∃ A c, Blk w p t #[.int .i64 cols, .slice A L.length c] ∧ c ≤ maxLen ∧ RdL w A c L := by
 obtain ⟨F, v, bs, hB, hF, _⟩ := h.get hk
 obtain ⟨A, c, rfl, hm, hr⟩ := hF.rd
 exact ⟨A, c, hB, hm, hr⟩

theorem Objs.openGrid (h : Objs w0 w os) {k p : Nat} {t : TypeId} {cols : Int} (hk : os[k]? = some (.grid p t cols L)) : ∃ v, Objs w0 w (.lines v L :: os.set k (.box p t #[.int .i64 cols, v])) := by
 obtain ⟨F, v, bs, hB, hF, hn, hFb⟩ := h.get hk
 refine ⟨v, h.split (w' := w) hk (fun F hF => ?_)⟩
 obtain ⟨v2, bs2, hB2, hF2, hn2, hFb2⟩ := hF
 obtain rfl : v = v2 := by have := hB.symm.trans hB2; simp at this; exact this
 exact ⟨fun b => b = p, LF v bs2 none, Chg.refl _ _, ⟨hB2, fun _ => Iff.rfl⟩, ⟨bs2, hF2, fun _ => Iff.rfl⟩, fun b hb hl => hn2 (by subst hb; exact hl), fun b hb => .inl ((hFb2 b).2 (.inl hb)), fun b hb => .inl ((hFb2 b).2 (.inr hb))⟩
theorem Objs.closeGrid {k p : Nat} {t : TypeId} {cols : Int} (h : Objs w0 w (.lines v L :: os)) (hk : os[k]? = some (.box p t #[.int .i64 cols, v])) : Objs w0 w (os.set k (.grid p t cols L)) := by
 have := h.join (w' := w) (k := k + 1) (j := 0) (o := .box p t #[.int .i64 cols, v]) (oj := .lines v L) (o' := .grid p t cols L) (oj' := .none) (by simpa using hk) rfl (by omega) (fun F G hF hG hd => by
  obtain ⟨bs, h1, h2⟩ := hG
  refine ⟨fun b => F b ∨ G b, fun _ => False, Chg.refl _ _, ⟨v, bs, hF.1, h1, fun hl => hd p ((hF.2 p).2 rfl) ((h2 p).2 hl), fun b => ?_⟩, fun _ hf => hf, fun _ _ hf => hf, fun b hb => hb.elim .inl (fun x => .inr (.inl x)), fun _ hf => hf.elim⟩
  simp only [hF.2, h2])
 simpa using this.tail
theorem LinesAt.same {bs2 : List Value} {m2 : Option Nat} (h : LinesAt w v bs L m) (g : LinesAt w v bs2 L m2) : bs2 = bs := by
 apply List.ext_getElem?
 intro n
 rcases Nat.lt_or_ge n L.length with hn | hn
 ·obtain ⟨A, c, rfl, q1, q2, q3, q4⟩ := own_form h.own
  obtain ⟨gg, rfl, q5, q6, q7⟩ := q4 (by omega)
  obtain ⟨A', c', e', p1, p2, p3, p4⟩ := own_form g.own
  obtain ⟨g', e'', p5, p6, p7⟩ := p4 (by omega)
  subst e''
  simp only [Value.slice.injEq, Option.some.injEq, Addr.mk.injEq, and_true, true_and] at e'
  obtain ⟨rfl, -⟩ := e'
  rw [← hdrs_at0 h.len, ← hdrs_at0 g.len, ← q6 _ (by omega), ← p6 _ (by omega)]
 ·rw [List.getElem?_eq_none (by rw [g.len]; exact hn), List.getElem?_eq_none (by rw [h.len]; exact hn)]
theorem Objs.openRow (h : Objs w0 w os) {k i : Nat} {l : Ln} (hk : os[k]? = some (.lines v L)) (hl : L[i]? = some l) : ∃ b, Objs w0 w (.cells b l.1 :: os.set k (.linesx v L i b)) := by
 obtain ⟨F, bs, h1, h2⟩ := h.get hk
 have hi : i < L.length := (List.getElem?_eq_some_iff.1 hl).1
 have hb : bs[i]? = some (bs[i]'(by rw [h1.len]; exact hi)) := by simp [h1.len, hi]
 refine ⟨bs[i]'(by rw [h1.len]; exact hi), h.split (w' := w) hk (fun F' hF' => ?_)⟩
 obtain ⟨bs3, g3, g4⟩ := hF'
 obtain rfl := h1.same g3
 refine ⟨LF v bs3 (some i), fun b => (bs3[i]'(by rw [g3.len]; exact hi)).ownBlock = some b, Chg.refl _ _, ⟨bs3, ⟨g3.len, g3.own, fun j b l hm hb hl => g3.rows j b l (by simp) hb hl, g3.dist⟩, hb, fun _ => Iff.rfl⟩, ⟨g3.rows i _ l (by simp) hb hl, fun _ => Iff.rfl⟩, fun b hb1 hb2 => ?_, fun b hb1 => .inl ((g4 b).2 ?_), fun b hb1 => .inl ((g4 b).2 (.inr ⟨i, _, by simp, hb, hb1⟩))⟩
 ·rcases hb1 with e | ⟨j, x, hm, hx, e⟩
  ·exact own_apart (by decide) g3.own (g3.rows i _ l (by simp) hb hl) e hb2
  ·exact hm (by rw [g3.dist i j _ _ _ hb hx hb2 e])
 ·rcases hb1 with e | ⟨j, x, hm, hx, e⟩
  ·exact .inl e
  ·exact .inr ⟨j, x, by simp, hx, e⟩
theorem hdrs_set {bs : List Value} {L : List Ln} (h : bs.length = L.length) (i : Nat) (l : Ln) (hl : (L[i]?).map (·.2) = some l.2) : hdrs bs (L.set i l) = hdrs bs L := by
 induction bs generalizing L i with
 | nil => cases L with | nil => rfl | cons a L => simp at h
 | cons b bs ih => cases L with
  | nil => simp at h
  | cons a L => cases i with
   | zero => simp at hl; rw [List.set_cons_zero, hdrs_cons, hdrs_cons, hl]
   | succ i => rw [List.set_cons_succ, hdrs_cons, hdrs_cons, ih (by simpa using h) i (by simpa using hl)]
theorem Objs.closeRow {k i : Nat} {b : Value} {cs : List Cell} {s : Bool} (h : Objs w0 w (.cells b cs :: os)) (hk : os[k]? = some (.linesx v L i b)) (hs : (L[i]?).map (·.2) = some s) : Objs w0 w (os.set k (.lines v (L.set i (cs, s)))) := by
 have := h.join (w' := w) (k := k + 1) (j := 0) (o := .linesx v L i b) (oj := .cells b cs) (o' := .lines v (L.set i (cs, s))) (oj' := .none) (by simpa using hk) rfl (by omega) (fun F G hF hG hd => by
  obtain ⟨bs, h1, h3, h2⟩ := hF
  refine ⟨fun b => F b ∨ G b, fun _ => False, Chg.refl _ _, ⟨bs, ⟨by simpa using h1.len, ?_, fun j x l hm hx hl => ?_, h1.dist⟩, fun y => ?_⟩, fun _ hf => hf, fun _ _ hf => hf, fun b hb => hb.elim .inl (fun x => .inr (.inl x)), fun _ hf => hf.elim⟩
  ·rw [List.length_set, hdrs_set h1.len i (cs, s) hs]; exact h1.own
  ·by_cases hj : i = j
   ·subst hj
    rw [h3] at hx; cases hx
    have hil : i < L.length := by rw [← h1.len]; exact (List.getElem?_eq_some_iff.1 h3).1
    rw [List.getElem?_set_self hil] at hl; cases hl
    exact hG.1
   ·rw [List.getElem?_set_ne hj] at hl
    exact h1.rows j x l (by simpa using hj) hx hl
  ·show F y ∨ G y ↔ _
   rw [h2, hG.2]
   constructor
   ·rintro ((e | ⟨j, x, hm, hx, e⟩) | e)
    ·exact .inl e
    ·exact .inr ⟨j, x, by simp, hx, e⟩
    ·exact .inr ⟨i, b, by simp, h3, e⟩
   ·rintro (e | ⟨j, x, hm, hx, e⟩)
    ·exact .inl (.inl e)
    ·by_cases hj : i = j
     ·subst hj; rw [h3] at hx; cases hx; exact .inr e
     ·exact .inl (.inr ⟨j, x, by simpa using hj, hx, e⟩))
 simpa using this.tail
theorem Objs.linesxRd (h : Objs w0 w os) {k i : Nat} {b : Value} (hk : os[k]? = some (.linesx v L i b)) : ∃ g c, v = .slice (some ⟨g, 0, none⟩) L.length c ∧ L.length ≤ c ∧ c ≤ maxLen ∧ i < L.length ∧ g < w.heap.size ∧ w.cell? ⟨g, i * 2, none⟩ = some b ∧ (∀ l, L[i]? = some l → w.cell? ⟨g, i * 2 + 1, none⟩ = some (.bool l.2)) ∧ ∀ j, w.frozen? ⟨g, j, none⟩ = false := by
 obtain ⟨F, bs, h1, h3, h2⟩ := h.get hk
 have hi : i < L.length := by rw [← h1.len]; exact (List.getElem?_eq_some_iff.1 h3).1
 obtain ⟨A, c, rfl, q1, q2, q3, q4⟩ := h1.form
 obtain ⟨g, rfl, q5, q6, q7, q8⟩ := q4 (by omega)
 exact ⟨g, c, rfl, q1, q2, hi, q5, q6 i b h3, q7 i, q8⟩
theorem Objs.cellsUpd {k : Nat} {cs cs' : List Cell} (hS : Objs w0 w os) (hk : os[k]? = some (.cells v cs)) (ho : OwnC w' 0 v cs') (hg : w.grownBy w' v.ownBlock) : Objs w0 w' (os.set k (.cells v cs')) :=
 hS.upd hk (fun F hF => ⟨F, Chg.of_grown hg F (fun b hb => (hF.2 b).2 hb), ⟨ho, hF.2⟩, fun b hb => .inl hb⟩)
end
end Go.Proofs.YtdndoikgnohkkaaDoor

namespace Go.Proofs.YtdndoikgnohkkaaDoor
open Go.RowKit

def brk (c : Nat) (cs : List Cell) : List Cell := match c with
 | 0 => cs
 | m + 1 => if m + 1 < cs.length ∧ (cAt cs m).width = 2 then (cs.set m (blank (cAt cs m).pen)).set (m + 1) (blank (cAt cs (m + 1)).pen) else cs
theorem brk_succ (m : Nat) (cs : List Cell) : brk (m + 1) cs = if m + 1 < cs.length ∧ (cAt cs m).width = 2 then (cs.set m (blank (cAt cs m).pen)).set (m + 1) (blank (cAt cs (m + 1)).pen) else cs := rfl
theorem brk_length (c : Nat) (cs : List Cell) : (brk c cs).length = cs.length := by
 cases c with
 | zero => rfl
 | succ m => rw [brk_succ]; split <;> simp
theorem cells_facts {w0 w : World} {os : List Ob} {k g n cap i : Nat} {cs : List Cell} {c : Cell} (S : Objs w0 w os) (hk : os[k]? = some (.cells (.slice (some ⟨g, 0, none⟩) n cap) cs)) (hi : cs[i]? = some c) :
  w.cell? ⟨g, i * 16 + 4, none⟩ = some (.int .i64 c.width) ∧ penAt w g (i * 16 + 5) = some c.pen ∧ cellAt w g (i * 16) = some c ∧ (∀ j, w.frozen? ⟨g, j, none⟩ = false) ∧ g < w.heap.size := by
 have hlt : i < cs.length := (List.getElem?_eq_some_iff.1 hi).1
 have ho := S.own hk
 obtain ⟨g', e, -, -, hz, hr⟩ := ho.head (by omega)
 cases e
 obtain ⟨h1, h2, h3⟩ := own_elem hr hlt (c := c) (by simpa [hlt] using hi)
 exact ⟨h1, h2, h3, fun j => OwnC.free ho j, hz⟩
theorem r14Blank_any (p : Pen) (w : World) : Calls Tryd.prog 78 #[.agg (pv p)] w fun e w' => e = .returned (.agg (cv (blank p))) ∧ Below w.heap.size w w' := by
 go_enter Tryd.func78, Tryd.ntmps78
 go_wp2
 exact bodyPost_ret (results_cell_row Tryd.results78 _ _ (w.heap.size + 1) 61 (cv (blank p)) (0, 0) _ rfl (heap_alloc2_new w _ _) Tryd.underlying61 rfl cell_size) rfl ⟨rfl, ((Below.refl _ _).alloc (Nat.le_refl _) _).alloc (by simp) _⟩
theorem front_call {P : Program} {f : FuncId} {args : Array Value} {k : Nat} {o o' : Ob} {r : Value} {w0 w : World} {os : List Ob} (hS : Objs w0 w os) (hk : os[k]? = some o)
  (hc : ∀ os1, Objs w0 w (o :: os1) → Calls P f args w fun e w' => e = .returned r ∧ Objs w0 w' (o' :: os1)) : Calls P f args w fun e w' => e = .returned r ∧ Objs w0 w' (os.set k o') :=
 (hc _ (hS.lift hk)).mono fun e w' ⟨h1, h2⟩ => ⟨h1, h2.lower hk⟩

set_option maxRecDepth 100000 in
set_option maxHeartbeats 2000000 in
theorem split_front (A : Option Addr) (cap : Nat) (cs : List Cell) (n : Int) (c : Nat) (hn : n = (c : Int)) (w0 w : World) (os : List Ob) (hS : Objs w0 w (.cells (.slice A cs.length cap) cs :: os)) (hlen : cs.length ≤ 1000000) (hc : c ≤ 2000000) :
  Calls Tryd.prog 71 #[.slice A cs.length cap, .int .i64 n] w fun e w' => e = .returned (.tuple #[]) ∧ Objs w0 w' (.cells (.slice A cs.length cap) (brk c cs) :: os) := by
 subst hn
 have S := Lib.hid hS
 clear hS
 cases c with
 | zero =>
  show Calls _ _ #[_, .int .i64 0] _ _
  go_enter Tryd.func71, Tryd.ntmps71
  go_wp2_with fail
  refine bodyPost_ret (results_none rfl _ _ _) rfl ?_
  exact ⟨rfl, S.out⟩
 | succ m =>
 simp only [Int.natCast_add, Int.natCast_one]
 by_cases hlt : m + 1 < cs.length
 case neg =>
  have HB := Lib.hid (show brk (m + 1) cs = cs by rw [brk_succ, if_neg (by omega)])
  have hge : ¬ ((m : Int) + 1 < cs.length) := by omega
  go_enter Tryd.func71, Tryd.ntmps71
  go_wp2_with fail
  refine bodyPost_ret (results_none rfl _ _ _) rfl ?_
  exact ⟨rfl, by rw [HB.out]; exact S.out⟩
 obtain ⟨g, rfl, -, -, -, -⟩ := (S.out.own (k := 0) rfl).head (by omega)
 have hat0 : cs[m]? = some (cAt cs m) := by rw [cAt_eq (by omega)]; simp [show m < cs.length by omega]
 have hat1 : cs[m + 1]? = some (cAt cs (m + 1)) := by rw [cAt_eq hlt]; simp [hlt]
 by_cases hw : (cAt cs m).width = 2
 case neg =>
  have HB := Lib.hid (show brk (m + 1) cs = cs by rw [brk_succ, if_neg (by simp [hw])])
  obtain ⟨hx, -⟩ := cells_facts S.out (k := 0) rfl hat0
  have hw1 := beq_no hw
  have hw2 := bne_yes hw
  clear hat0 hat1 hw
  go_enter Tryd.func71, Tryd.ntmps71
  go_wp2_with fail
  refine bodyPost_ret (results_none rfl _ _ _) rfl ?_
  exact ⟨rfl, by rw [HB.out]; exact S.out⟩
 have HB := Lib.hid (show brk (m + 1) cs = (cs.set m (blank (cAt cs m).pen)).set (m + 1) (blank (cAt cs (m + 1)).pen) by rw [brk_succ, if_pos ⟨hlt, hw⟩])
 obtain ⟨hx, -⟩ := cells_facts S.out (k := 0) rfl hat0
 have hw1 := beq_yes hw
 have hw2 := bne_no hw
 have HW := Lib.hid hw
 clear hw
 go_enter Tryd.func71, Tryd.ntmps71
 go_upto_region 1 with (fail)
 ·clear hx hw1 hw2
  have hwm : IntKind.i64.wrap (m : Int) = (m : Int) := IntWalk.i64_in _ (by omega)
  have hb0 : (0 : Int) ≤ (m : Int) := by omega
  have hb1 : (m : Int) < (cs.length : Int) := by omega
  have hb2 : (0 : Int) ≤ (m : Int) + 1 := by omega
  have hb3 : (m : Int) + 1 < (cs.length : Int) := by omega
  have ht1 : ((m : Int) + 1).toNat = m + 1 := by omega
  refine wp_region_stage (w0 := w0) (os := os) (by kernel_rfl) (by kernel_rfl) (by kernel_rfl) [(0, 19, [], fun vs => .cells (.slice (some ⟨g, 0, none⟩) cs.length cap) (cs.set m (blank (cAt cs m).pen))), (0, 21, [], fun vs => .cells (.slice (some ⟨g, 0, none⟩) cs.length cap) ((cs.set m (blank (cAt cs m).pen)).set (m + 1) (blank (cAt cs (m + 1)).pen)))] [[], [], [], [], [], [], [], [], [], [], [0], [], [], [], [], [], [0], [], [], [0], [], [0]] [.cells (.slice (some ⟨g, 0, none⟩) cs.length cap) cs] (fun i u => match i with | 0 => u = .slice (some ⟨g, 0, none⟩) cs.length cap | 1 => u = .int .i64 (↑m + 1) | 2 => u = .int .i64 ↑m | 3 => u = .slice (some ⟨g, 0, none⟩) cs.length cap | 4 => u = .int .i64 (↑m + 1) | 5 => u = .slice (some ⟨g, 0, none⟩) cs.length cap | 6 => u = .int .i64 (↑m + 1) | 7 => u = .int .i64 ↑m | 8 => u = .pointer (some ⟨g, m * 16, none⟩) | 9 => u = .pointer (some ⟨g, m * 16 + 5, none⟩) | 10 => u = .agg (pv (cAt cs m).pen) | 11 => u = .agg (cv (blank (cAt cs m).pen)) | 12 => u = .slice (some ⟨g, 0, none⟩) cs.length cap | 13 => u = .int .i64 (↑m + 1) | 14 => u = .pointer (some ⟨g, (m + 1) * 16, none⟩) | 15 => u = .pointer (some ⟨g, (m + 1) * 16 + 5, none⟩) | 16 => u = .agg (pv (cAt cs (m + 1)).pen) | 17 => u = .agg (cv (blank (cAt cs (m + 1)).pen)) | 18 => u = .pointer (some ⟨g, m * 16, none⟩) | 19 => True | 20 => u = .pointer (some ⟨g, (m + 1) * 16, none⟩) | 21 => True | _ => True) (fun vs => [.cells (.slice (some ⟨g, 0, none⟩) cs.length cap) ((cs.set m (blank (cAt cs m).pen)).set (m + 1) (blank (cAt cs (m + 1)).pen))]) (by kernel_rfl) (fun vs => by rfl) S.out ?_ ?_
  ·apply sc
   ·intro a w' vs σ hS hl hs hk
    have f0 : a.tmps[0]?.getD undef = .slice (some ⟨g, 0, none⟩) cs.length cap := sof hk
    exact rp (.slice (some ⟨g, 0, none⟩) cs.length cap) (by simp [execOp, Act.eval, f0, go_sem]) hl hs hS
   apply sc
   ·intro a w' vs σ hS hl hs hk
    have f1 : a.tmps[1]?.getD undef = .int .i64 (↑m + 1) := sof hk
    exact rp (.int .i64 (↑m + 1)) (by simp [execOp, Act.eval, f1, go_sem]) hl hs hS
   apply sc
   ·intro a w' vs σ hS hl hs hk
    have f22 : a.tmps[22]?.getD undef = .int .i64 (↑m + 1) := sf hk 1
    exact rp (.int .i64 ↑m) (by simp [execOp, Act.eval, f22, go_sem, hwm]) hl hs hS
   apply sc
   ·intro a w' vs σ hS hl hs hk
    have f0 : a.tmps[0]?.getD undef = .slice (some ⟨g, 0, none⟩) cs.length cap := sof hk
    exact rp (.slice (some ⟨g, 0, none⟩) cs.length cap) (by simp [execOp, Act.eval, f0, go_sem]) hl hs hS
   apply sc
   ·intro a w' vs σ hS hl hs hk
    have f1 : a.tmps[1]?.getD undef = .int .i64 (↑m + 1) := sof hk
    exact rp (.int .i64 (↑m + 1)) (by simp [execOp, Act.eval, f1, go_sem]) hl hs hS
   apply sc
   ·intro a w' vs σ hS hl hs hk
    have f0 : a.tmps[0]?.getD undef = .slice (some ⟨g, 0, none⟩) cs.length cap := sof hk
    exact rp (.slice (some ⟨g, 0, none⟩) cs.length cap) (by simp [execOp, Act.eval, f0, go_sem]) hl hs hS
   apply sc
   ·intro a w' vs σ hS hl hs hk
    have f1 : a.tmps[1]?.getD undef = .int .i64 (↑m + 1) := sof hk
    exact rp (.int .i64 (↑m + 1)) (by simp [execOp, Act.eval, f1, go_sem]) hl hs hS
   apply sc
   ·intro a w' vs σ hS hl hs hk
    have f27 : a.tmps[27]?.getD undef = .int .i64 (↑m + 1) := sf hk 6
    exact rp (.int .i64 ↑m) (by simp [execOp, Act.eval, f27, go_sem, hwm]) hl hs hS
   apply sc
   ·intro a w' vs σ hS hl hs hk
    have f26 : a.tmps[26]?.getD undef = .slice (some ⟨g, 0, none⟩) cs.length cap := sf hk 5
    have f28 : a.tmps[28]?.getD undef = .int .i64 ↑m := sf hk 7
    exact rp (pt g (m * 16)) (by simp [execOp, Act.eval, f26, f28, go_sem, hb0, hb1]) hl hs hS
   apply sc
   ·intro a w' vs σ hS hl hs hk
    have f29 : a.tmps[29]?.getD undef = .pointer (some ⟨g, m * 16, none⟩) := sf hk 8
    exact rp (pt g (m * 16 + 5)) (by simp [execOp, Act.eval, f29, go_sem]) hl hs hS
   apply sc
   ·intro a w' vs σ hS hl hs hk
    have f30 : a.tmps[30]?.getD undef = .pointer (some ⟨g, m * 16 + 5, none⟩) := sf hk 9
    have hc := cells_facts hS (sg (hs 0 (by decide))) (i := m) (c := cAt cs m) hat0
    have hx := hc.2.1
    exact rp (.agg (pv (cAt cs m).pen)) (by simp [execOp, Act.eval, f30, go_sem, hx]) hl hs hS
   apply sc
   ·intro a w' vs σ hS hl hs hk
    have e31 : a.tmps.getD 31 undef = .agg (pv (cAt cs m).pen) := svv hk 10
    exact ro_call (f := 63) (wanted_none rfl) rfl (by simp only [List.map_toArray, List.map_cons, List.map_nil, Act.eval, e31] <;> rfl) (fun _ _ => by kernel_rfl) ((cellBlank_any _ w').mono fun e w2 ⟨h1, h2⟩ => ⟨_, h1, sp_same (by kernel_rfl) hl hs (hS.bel h2) rfl, trivial⟩)
   apply sc
   ·intro a w' vs σ hS hl hs hk
    have f0 : a.tmps[0]?.getD undef = .slice (some ⟨g, 0, none⟩) cs.length cap := sof hk
    exact rp (.slice (some ⟨g, 0, none⟩) cs.length cap) (by simp [execOp, Act.eval, f0, go_sem]) hl hs hS
   apply sc
   ·intro a w' vs σ hS hl hs hk
    have f1 : a.tmps[1]?.getD undef = .int .i64 (↑m + 1) := sof hk
    exact rp (.int .i64 (↑m + 1)) (by simp [execOp, Act.eval, f1, go_sem]) hl hs hS
   apply sc
   ·intro a w' vs σ hS hl hs hk
    have f33 : a.tmps[33]?.getD undef = .slice (some ⟨g, 0, none⟩) cs.length cap := sf hk 12
    have f34 : a.tmps[34]?.getD undef = .int .i64 (↑m + 1) := sf hk 13
    exact rp (pt g ((m + 1) * 16)) (by simp [execOp, Act.eval, f33, f34, go_sem, hb2, hb3, ht1]) hl hs hS
   apply sc
   ·intro a w' vs σ hS hl hs hk
    have f35 : a.tmps[35]?.getD undef = .pointer (some ⟨g, (m + 1) * 16, none⟩) := sf hk 14
    exact rp (pt g ((m + 1) * 16 + 5)) (by simp [execOp, Act.eval, f35, go_sem]) hl hs hS
   apply sc
   ·intro a w' vs σ hS hl hs hk
    have f36 : a.tmps[36]?.getD undef = .pointer (some ⟨g, (m + 1) * 16 + 5, none⟩) := sf hk 15
    have hc := cells_facts hS (sg (hs 0 (by decide))) (i := m + 1) (c := cAt cs (m + 1)) hat1
    have hx := hc.2.1
    exact rp (.agg (pv (cAt cs (m + 1)).pen)) (by simp [execOp, Act.eval, f36, go_sem, hx]) hl hs hS
   apply sc
   ·intro a w' vs σ hS hl hs hk
    have e37 : a.tmps.getD 37 undef = .agg (pv (cAt cs (m + 1)).pen) := svv hk 16
    exact ro_call (f := 63) (wanted_none rfl) rfl (by simp only [List.map_toArray, List.map_cons, List.map_nil, Act.eval, e37] <;> rfl) (fun _ _ => by kernel_rfl) ((cellBlank_any _ w').mono fun e w2 ⟨h1, h2⟩ => ⟨_, h1, sp_same (by kernel_rfl) hl hs (hS.bel h2) rfl, trivial⟩)
   apply sc
   ·intro a w' vs σ hS hl hs hk
    have f21 : a.tmps[21]?.getD undef = .slice (some ⟨g, 0, none⟩) cs.length cap := sf hk 0
    have f23 : a.tmps[23]?.getD undef = .int .i64 ↑m := sf hk 2
    exact rp (pt g (m * 16)) (by simp [execOp, Act.eval, f21, f23, go_sem, hb0, hb1]) hl hs hS
   apply sc
   ·intro a w' vs σ hS hl hs hk
    have f39 : a.tmps[39]?.getD undef = .pointer (some ⟨g, m * 16, none⟩) := sf hk 18
    have f32 : a.tmps[32]?.getD undef = .agg (cv (blank (cAt cs m).pen)) := sf hk 11
    obtain ⟨W, hst, ho, hg⟩ := (hS.own (sg (hs 0 (by decide)))).putAt (k := m) (by omega) (blank (cAt cs m).pen)
    exact rstep_store (wanted_none rfl) rfl (by simp [execOp, Act.eval, f39, f32, hst, go_sem]) (sp_set 0 (.cells (.slice (some ⟨g, 0, none⟩) cs.length cap) (cs.set m (blank (cAt cs m).pen))) (by kernel_rfl) (by simp) (by decide) hl hs (by rfl) (hS.cellsUpd (sg (hs 0 (by decide))) ho hg) trivial) trivial
   apply sc
   ·intro a w' vs σ hS hl hs hk
    have f24 : a.tmps[24]?.getD undef = .slice (some ⟨g, 0, none⟩) cs.length cap := sf hk 3
    have f25 : a.tmps[25]?.getD undef = .int .i64 (↑m + 1) := sf hk 4
    exact rp (pt g ((m + 1) * 16)) (by simp [execOp, Act.eval, f24, f25, go_sem, hb2, hb3, ht1]) hl hs hS
   apply sc
   ·intro a w' vs σ hS hl hs hk
    have f40 : a.tmps[40]?.getD undef = .pointer (some ⟨g, (m + 1) * 16, none⟩) := sf hk 20
    have f38 : a.tmps[38]?.getD undef = .agg (cv (blank (cAt cs (m + 1)).pen)) := sf hk 17
    obtain ⟨W, hst, ho, hg⟩ := (hS.own (sg (hs 0 (by decide)))).putAt (k := m + 1) (by simp; omega) (blank (cAt cs (m + 1)).pen)
    exact rstep_store (wanted_none rfl) rfl (by simp [execOp, Act.eval, f40, f38, hst, go_sem]) (sp_set 0 (.cells (.slice (some ⟨g, 0, none⟩) cs.length cap) ((cs.set m (blank (cAt cs m).pen)).set (m + 1) (blank (cAt cs (m + 1)).pen))) (by kernel_rfl) (by simp) (by decide) hl hs (by rfl) (hS.cellsUpd (sg (hs 0 (by decide))) ho hg) trivial) trivial
   exact SSteps.nil
  ·intro vs w' hS hv
   have q0 : vs 0 = _ := hv 0 (by decide)
   have q1 : vs 1 = _ := hv 1 (by decide)
   have q2 : vs 2 = _ := hv 2 (by decide)
   have q3 : vs 3 = _ := hv 3 (by decide)
   have q4 : vs 4 = _ := hv 4 (by decide)
   have q5 : vs 5 = _ := hv 5 (by decide)
   have q6 : vs 6 = _ := hv 6 (by decide)
   have q7 : vs 7 = _ := hv 7 (by decide)
   have q8 : vs 8 = _ := hv 8 (by decide)
   have q9 : vs 9 = _ := hv 9 (by decide)
   have q10 : vs 10 = _ := hv 10 (by decide)
   have q11 : vs 11 = _ := hv 11 (by decide)
   have q12 : vs 12 = _ := hv 12 (by decide)
   have q13 : vs 13 = _ := hv 13 (by decide)
   have q14 : vs 14 = _ := hv 14 (by decide)
   have q15 : vs 15 = _ := hv 15 (by decide)
   have q16 : vs 16 = _ := hv 16 (by decide)
   have q17 : vs 17 = _ := hv 17 (by decide)
   have q18 : vs 18 = _ := hv 18 (by decide)
   have q20 : vs 20 = _ := hv 20 (by decide)
   have S2 := Lib.hid hS
   simp only [putL, Act.put, Nat.zero_add, Nat.reduceAdd, List.setIfInBounds_toArray, List.set_cons_succ, List.set_cons_zero, q0, q1, q2, q3, q4, q5, q6, q7, q8, q9, q10, q11, q12, q13, q14, q15, q16, q17, q18, q20]
   clear hS hv q0 q1 q2 q3 q4 q5 q6 q7 q8 q9 q10 q11 q12 q13 q14 q15 q16 q17 q18 q20
   go_wp2_with fail
   go_end0
   exact ⟨rfl, by rw [HB.out]; exact S2.out⟩
theorem split_at {A : Option Addr} {n0 cap c : Nat} {cs : List Cell} {n : Int} {w0 w : World} {os : List Ob} (hS : Objs w0 w (.cells (.slice A n0 cap) cs :: os)) (hn0 : n0 = cs.length) (hn : n = (c : Int)) (hlen : cs.length ≤ 1000000) (hc : c ≤ 2000000) :
  Calls Tryd.prog 71 #[.slice A n0 cap, .int .i64 n] w fun e w' => e = .returned (.tuple #[]) ∧ Objs w0 w' (.cells (.slice A n0 cap) (brk c cs) :: os) := by
 subst hn0
 exact split_front A cap cs n c hn w0 w os hS hlen hc
end Go.Proofs.YtdndoikgnohkkaaDoor

namespace Go.Proofs.YtdndoikgnohkkaaDoor
open Go.RowKit

theorem line_info : (Tryd.prog.info? 86).map (fun i => (i.zero, i.size, i.bytes)) = some (some (.agg #[.slice none 0 0, .bool false]), 2, 32) := by kernel_rfl
theorem set_self {α : Type} {l : List α} {k : Nat} {x : α} (h : l[k]? = some x) : l.set k x = l := by
 apply List.ext_getElem?
 intro n
 by_cases hn : k = n
 ·subst hn; rw [List.getElem?_set_self (List.getElem?_eq_some_iff.1 h).1, h]
 ·rw [List.getElem?_set_ne hn]
theorem lv_one {v : Value} {cs : List Cell} {w : World} {B : Nat} (h : OwnC w B v cs) : v.oneCell' = true := by
 obtain ⟨A, c, rfl, _⟩ := h.form
 rfl
section
variable {w0 w : World} {os : List Ob} {v b : Value} {cs ds : List Cell} {L : List Ln} {k j : Nat}
theorem run_appO (hS : Objs w0 w os) (hk : os[k]? = some (.cells v cs)) {A : Option Addr} {c : Nat} (hr : RdC w A c ds) (hlen : cs.length + ds.length ≤ 1000000) (ty : TypeId) :
  ∃ v' w', (Builtin.append_ #[84, 84] ty #[v, .slice A ds.length c]).run Tryd.prog w = .ok v' w' ∧ Objs w0 w' (os.set k (.cells v' (cs ++ ds))) ∧ ∃ A' c', v' = .slice A' (cs.length + ds.length) c' := by
 obtain ⟨i, hi, hz0, hz1, hz2⟩ := info_parts cell_info
 obtain ⟨h1, h2, h3⟩ := hr
 have hown := hS.own hk
 cases A with
 | none =>
  obtain rfl := h2 rfl
  obtain rfl : ds = [] := List.eq_nil_of_length_eq_zero (by omega)
  have hrun := run_append_owned_none (P := Tryd.prog) (w := w) 0 84 ty 61 i 16 Tryd.underlying84 hi v cs.length (flat cs) hown
  obtain ⟨A', c', e, _⟩ := hown.form
  refine ⟨v, w, hrun, ?_, A', c', by simpa using e⟩
  rw [List.append_nil, set_self hk]; exact hS
 | some ad =>
  obtain ⟨v', w', hrun, g1, g2, g3, g4⟩ := run_append_own_at (P := Tryd.prog) (w := w) 0 84 ty 61 i _ 16 64 Tryd.underlying84 hi hz0 hz1 hz2 (by simp [Value.cells, cv_size]) (by omega) v cs.length (flat cs) hown ad ds.length c (flat ds) (flat_length ds) (by
   intro j u hu
   have hj : j < ds.length * 16 := by have := (List.getElem?_eq_some_iff.1 hu).1; rwa [flat_length] at this
   obtain ⟨b, off, e, _, hr⟩ := h3 (by omega)
   cases e
   rw [add_at]; exact hr j u hu) (flat_one ds) (by simp only [maxLen]; omega) (by omega) (Nat.zero_le _)
  have ho' : OwnC w' 0 v' (cs ++ ds) := by unfold OwnC; rw [flat_append, List.length_append]; exact g1
  obtain ⟨A', c', e, _⟩ := ho'.form
  refine ⟨v', w', hrun, hS.upd hk (fun F hF => ⟨fun b => v'.ownBlock = some b, Chg.of_grown g2 F (fun b hb => (hF.2 b).2 hb), ⟨ho', fun _ => Iff.rfl⟩, fun b hb => ?_⟩), A', c', by simpa using e⟩
  rcases g4 with g4 | g4
  ·exact .inl ((hF.2 b).2 (by rw [← g4]; exact hb))
  ·rw [g4] at hb; cases hb; exact .inr (Nat.le_refl _)
theorem hdrs_snoc {bs : List Value} (h : bs.length = L.length) (b : Value) (l : Ln) : hdrs (bs ++ [b]) (L ++ [l]) = hdrs bs L ++ [b, .bool l.2] := hdrs_append (L2 := [l]) (b2 := [b]) h
theorem run_appL (hS : Objs w0 w os) (hk : os[k]? = some (.lines v L)) (hj : os[j]? = some (.cells b cs)) (hkj : k ≠ j) {ad : Addr} {c : Nat} {s : Bool} (h0 : w.cell? ad = some b) (h1 : w.cell? (ad.add 1) = some (.bool s)) (hlen : L.length ≤ 1000000) (ty : TypeId) :
  ∃ v' w', (Builtin.append_ #[64, 64] ty #[v, .slice (some ad) 1 c]).run Tryd.prog w = .ok v' w' ∧ Objs w0 w' ((os.set k (.lines v' (L ++ [(cs, s)]))).set j .none) ∧ ∃ A' c', v' = .slice A' (L.length + 1) c' := by
 obtain ⟨i, hi, hz0, hz1, hz2⟩ := info_parts line_info
 obtain ⟨F, bs, hb1, hb2⟩ := hS.get hk
 have hob := hS.own hj
 obtain ⟨v', w', hrun, g1, g2, g3, g4⟩ := run_append_own_at (P := Tryd.prog) (w := w) 0 64 ty 86 i _ 2 32 Tryd.underlying64 hi hz0 hz1 hz2 (by simp [Value.cells]) (by omega) v L.length (hdrs bs L) hb1.own ad 1 c [b, .bool s] rfl (by
  intro j u hu
  match j with
  | 0 => simp at hu; subst hu; rw [Addr.add_zero']; exact h0
  | 1 => simp at hu; subst hu; exact h1
  | j + 2 => simp at hu) (by intro u hu; simp at hu; rcases hu with rfl | rfl; exact lv_one hob; rfl) (by simp only [maxLen]; omega) (by omega) (Nat.zero_le _)
 have hrow : w'.ownsRow 0 86 2 v' (L ++ [(cs, s)]).length (hdrs (bs ++ [b]) (L ++ [(cs, s)])) := by rw [hdrs_snoc hb1.len, List.length_append]; exact g1
 obtain ⟨A', c', e, _⟩ := own_form hrow
 refine ⟨v', w', hrun, hS.join hk hj hkj (fun F G hF hG hd => ?_), A', c', by simpa using e⟩
 obtain ⟨bs2, q1, q2⟩ := hF
 obtain rfl := hb1.same q1
 have hchg : Chg (fun x => v.ownBlock = some x) w w' := Chg.of_grown g2 _ (fun b hb => hb)
 have hnb : ∀ x, b.ownBlock = some x → ¬ (v.ownBlock = some x) := fun x hx hv => own_apart (by decide) q1.own hob hv hx
 refine ⟨LF v' (bs2 ++ [b]) none, fun _ => False, hchg.mono (fun x _ hx => .inl ((q2 x).2 (.inl hx))), ⟨bs2 ++ [b], ⟨by simp [q1.len], hrow, fun n x l _ hx hl => ?_, fun n m x y z hx hy hxz hyz => ?_⟩, fun _ => Iff.rfl⟩, fun _ hf => hf, fun _ _ hf => hf, fun x hx => ?_, fun _ hf => hf.elim⟩
 ·rcases Nat.lt_or_ge n bs2.length with hn | hn
  ·rw [List.getElem?_append_left hn] at hx
   rw [List.getElem?_append_left (by rw [← q1.len]; exact hn)] at hl
   have ho := q1.rows n x l (by simp) hx hl
   exact own_chg ho hchg (fun y hy hv => own_apart (by decide) q1.own ho hv hy)
  ·have hn' : n = bs2.length := by have := (List.getElem?_eq_some_iff.1 hx).1; simp at this; omega
   subst hn'
   rw [List.getElem?_append_right (Nat.le_refl _)] at hx
   rw [q1.len, List.getElem?_append_right (Nat.le_refl _)] at hl
   simp at hx hl
   subst hx hl
   exact own_chg hob hchg hnb
 ·have key : ∀ n x, (bs2 ++ [b])[n]? = some x → x.ownBlock = some z → (n < bs2.length ∧ bs2[n]? = some x) ∨ (n = bs2.length ∧ x = b) := fun n x hx _ => by
   rcases Nat.lt_or_ge n bs2.length with hn | hn
   ·rw [List.getElem?_append_left hn] at hx; exact .inl ⟨hn, hx⟩
   ·have hn' : n = bs2.length := by have := (List.getElem?_eq_some_iff.1 hx).1; simp at this; omega
    subst hn'
    rw [List.getElem?_append_right (Nat.le_refl _)] at hx
    simp at hx
    exact .inr ⟨rfl, hx.symm⟩
  rcases key n x hx hxz with ⟨a1, a2⟩ | ⟨a1, rfl⟩ <;> rcases key m y hy hyz with ⟨b1, b2⟩ | ⟨b1, rfl⟩
  ·exact q1.dist n m x y z a2 b2 hxz hyz
  ·exact (hd z ((q2 z).2 (.inr ⟨n, x, by simp, a2, hxz⟩)) ((hG.2 z).2 hyz)).elim
  ·exact (hd z ((q2 z).2 (.inr ⟨m, y, by simp, b2, hyz⟩)) ((hG.2 z).2 hxz)).elim
  ·omega
 ·rcases hx with hx | ⟨n, y, _, hy, hyx⟩
  ·rcases g4 with g4 | g4
   ·exact .inl ((q2 x).2 (.inl (by rw [← g4]; exact hx)))
   ·rw [g4] at hx; cases hx; exact .inr (.inr (Nat.le_refl _))
  ·rcases Nat.lt_or_ge n bs2.length with hn | hn
   ·rw [List.getElem?_append_left hn] at hy
    exact .inl ((q2 x).2 (.inr ⟨n, y, by simp, hy, hyx⟩))
   ·have hn' : n = bs2.length := by have := (List.getElem?_eq_some_iff.1 hy).1; simp at this; omega
    subst hn'
    rw [List.getElem?_append_right (Nat.le_refl _)] at hy
    simp at hy
    subst hy
    exact .inr (.inl ((hG.2 x).2 hyx))
theorem Objs.nilLines (h : Objs w0 w os) : Objs w0 w (.lines (.slice none 0 0) [] :: os) :=
 h.cons (w' := w) (Below.refl _ _) (G := fun _ => False) ⟨[], ⟨rfl, ⟨by simp [hdrs], .inl ⟨rfl, rfl⟩⟩, fun i b l _ hb => by simp at hb, fun i j b c g hb => by simp at hb⟩, fun b => ⟨fun h => h.elim, fun h => by rcases h with h | ⟨i, x, _, hx, _⟩; cases h; simp at hx⟩⟩ (fun _ hf => hf.elim)
theorem Objs.nilCells (h : Objs w0 w os) : Objs w0 w (.cells (.slice none 0 0) [] :: os) :=
 h.cons (w' := w) (Below.refl _ _) (G := fun _ => False) ⟨OwnC.nil w 0, fun b => ⟨fun h => h.elim, fun h => by cases h⟩⟩ (fun _ hf => hf.elim)
theorem Objs.cellsRd (h : Objs w0 w os) (hk : os[k]? = some (.cells v cs)) : ∃ A c, v = .slice A cs.length c ∧ RdC w A c cs := (h.own hk).form
end

section
variable {ops : Array Oper} {rest : List Oper} {o : Oper} {a : Act} {w : World} {Q : Exit → Act → World → Prop} {Φ : Value → World → Prop}
theorem exec_app {t : TypeId} {s x : Operand} (ho : o.op = .call { callee := .builtin .append, args := #[s, x], argTypes := #[t, t] }) {vs vx v' : Value} {w' : World} (hs : a.eval s = vs) (hx : a.eval x = vx) (hr : (Builtin.append_ #[t, t] o.type #[vs, vx]).run Tryd.prog w = .ok v' w') : (execOp a.eval o).run Tryd.prog w = .ok (.value v') w' := by
 simp [execOp, ho, resolve, invoke, builtin, hs, hx, hr, Result.andThen]
theorem wpList_app {t : TypeId} (s x : Operand) (hw : Region.wanted o (yielded ops a.tmps) = true) (ho : o.op = .call { callee := .builtin .append, args := #[s, x], argTypes := #[t, t] }) {vs vx v' : Value} {w' : World} (hs : a.eval s = vs) (hx : a.eval x = vx) (hr : (Builtin.append_ #[t, t] o.type #[vs, vx]).run Tryd.prog w = .ok v' w')
  (h : wpList Tryd.prog ops Q rest (a.put o.dst v') w') : wpList Tryd.prog ops Q (o :: rest) a w := wpList_run hw (exec_app ho hs hx hr) h
theorem rs_run {v' : Value} {w' : World} (hw : Region.wanted o (yielded ops a.tmps) = true) (hr : (execOp a.eval o).run Tryd.prog w = .ok (.value v') w') (h : Φ v' w') : RStep Tryd.prog ops Q Φ (fun _ _ => True) o a w := rstep_value hw hr h trivial
theorem exec_bsl {t : TypeId} {n : Nat} {parts : Array (Nat × Operand)} {vs : Array (Nat × Value)} {v : Value} {w' : World} (ho : o.op = .buildSlice t n parts) (hv : (parts.map fun (i, x) => (i, a.eval x)) = vs) (hr : (Instr.buildSlice t n vs).run Tryd.prog w = .ok v w') : (execOp a.eval o).run Tryd.prog w = .ok (.value v) w' := by
 subst hv
 unfold execOp
 simp only [ho, Sem.run_bind, hr, Result.andThen_ok, Sem.run_pure]
theorem run_bsl (v : Value) (s : Bool) (w : World) : (Instr.buildSlice 64 1 #[(0, .agg #[v, .bool s])]).run Tryd.prog w = .ok (.slice (some ⟨w.heap.size, 0, none⟩) 1 1) (w.alloc (.cells #[v, .bool s] 86)) := by kernel_rfl
end
end Go.Proofs.YtdndoikgnohkkaaDoor

namespace Go.Proofs.YtdndoikgnohkkaaDoor
open Go.RowKit

set_option maxRecDepth 100000 in
set_option maxHeartbeats 2000000 in
theorem r14Blanks_any (n : Nat) (hn : n ≤ 100000) (p : Pen) (w0 w : World) (os : List Ob) (hS : Objs w0 w os) :
  Calls Tryd.prog 59 #[.int .i64 n, .agg (pv p)] w fun e w' => ∃ v, e = .returned (.agg #[v, .bool false]) ∧ Objs w0 w' (.cells v (List.replicate n (blank p)) :: os) := by
 have S0 := Lib.hid hS
 clear hS
 go_enter Tryd.func59, Tryd.ntmps59
 go_wp2_with fail
 refine at_objsC S0.out.alloc3 (fun W S1 => ?_)
 generalize w.heap.size + 1 + 1 = b5 at S1 ⊢
 generalize w.heap.size + 1 = b4 at S1 ⊢
 generalize w.heap.size = b3 at S1 ⊢
 have S1 := Lib.hid S1
 go_loopw [6] (fun i wr => ∃ (k : Nat) (v : Value), k ≤ n ∧ i = .int .i64 k ∧ Objs w0 wr (.cells v (List.replicate k (blank p)) :: .box b5 86 #[v, .bool false] :: .box b4 86 #[.slice none 0 0, .bool false] :: .box b3 29 (pv p) :: os)) (fun i _ => n - (intOf i).toNat)
 case atStart => exact ⟨0, _, Nat.zero_le _, rfl, S1.out.nilCells⟩
 case round =>
  obtain ⟨k, v, hk, rfl, hS⟩ := hrel
  have S := Lib.hid hS
  clear hS
  by_cases hlt : k < n
  ·go_upto_region 5 with (fail)
   refine wp_region_stage (w0 := w0) (os := os) (by kernel_rfl) (by kernel_rfl) (by kernel_rfl) [(0, 4, [4], fun vs => .cells (vs 4) [blank p]), (1, 5, [5], fun vs => .cells (vs 5) (List.replicate (k + 1) (blank p))), (2, 7, [5], fun vs => .box b5 86 #[vs 5, .bool false])] [[], [2], [4], [], [0], [0, 1], [], [2]] [.none, .cells v (List.replicate k (blank p)), .box b5 86 #[v, .bool false], .box b4 86 #[.slice none 0 0, .bool false], .box b3 29 (pv p)] (fun i u => match i with | 0 => u = .pointer (some ⟨b5, 0, none⟩) | 1 => u = (v : Value) | 2 => u = .agg (pv p) | 3 => u = .agg (cv (blank p)) | 4 => ∃ g, u = .slice (some ⟨g, 0, none⟩) 1 1 | 5 => ∃ A c, u = .slice A (k + 1) c | 6 => u = .pointer (some ⟨b5, 0, none⟩) | 7 => True | _ => True) (fun vs => [.cells (vs 4) [blank p], .cells (vs 5) (List.replicate (k + 1) (blank p)), .box b5 86 #[vs 5, .bool false], .box b4 86 #[.slice none 0 0, .bool false], .box b3 29 (pv p)]) (by kernel_rfl) (fun vs => by rfl) S.out.pad ?_ ?_
   ·apply sc
    ·intro a w' vs σ hS hl hs hk
     have f5 : a.tmps[5]?.getD undef = .pointer (some ⟨b5, 0, none⟩) := sof hk
     exact rp (pt b5 0) (by simp [execOp, Act.eval, f5, go_sem]) hl hs hS
    apply sc
    ·intro a w' vs σ hS hl hs hk
     have f12 : a.tmps[12]?.getD undef = .pointer (some ⟨b5, 0, none⟩) := sf hk 0
     have hx := (hS.box (sg (hs 2 (by decide)))).cell
     exact rp v (by simp [execOp, Act.eval, f12, go_sem, hx]) hl hs hS
    apply sc
    ·intro a w' vs σ hS hl hs hk
     have f3 : a.tmps[3]?.getD undef = .pointer (some ⟨b3, 0, none⟩) := sof hk
     have hx := (hS.box (sg (hs 4 (by decide)))).penAt
     exact rp (.agg (pv p)) (by simp [execOp, Act.eval, f3, go_sem, hx]) hl hs hS
    apply sc
    ·intro a w' vs σ hS hl hs hk
     have e14 : a.tmps.getD 14 undef = .agg (pv p) := svv hk 2
     exact ro_call (f := 78) (wanted_none rfl) rfl (by simp only [List.map_toArray, List.map_cons, List.map_nil, Act.eval, e14] <;> rfl) (fun _ _ => by kernel_rfl) ((r14Blank_any _ w').mono fun e w2 ⟨h1, h2⟩ => ⟨_, h1, sp_same (by kernel_rfl) hl hs (hS.bel h2) rfl, trivial⟩)
    apply sc
    ·intro a w' vs σ hS hl hs hk
     have f15 : a.tmps[15]?.getD undef = .agg (cv (blank p)) := sf hk 3
     exact rs_run (wanted_none rfl) (exec_bsl rfl (by simp [Act.eval, f15]) (run_bs1 (blank p) w')) (sp_set 0 (.cells (.slice (some ⟨w'.heap.size, 0, none⟩) 1 1) [blank p]) (by kernel_rfl) (by simp) (by decide) hl hs (by rfl) ((hS.newCells (belA _ _) (by simpa [fv, flat] using OwnC.one w' (blank p) (Nat.le_refl _))).place (sg (hs 0 (by decide)))) ⟨_, rfl⟩)
    apply sc
    ·intro a w' vs σ hS hl hs hk
     have f13 : a.tmps[13]?.getD undef = (v : Value) := sf hk 1
     have e16 : a.tmps.getD 16 undef = vs 4 := sk_val hk 4 (by kernel_rfl) rfl rfl
     have p16 : (fun u : Value => ∃ g, u = .slice (some ⟨g, 0, none⟩) 1 1) (vs 4) := (hk.1 4 (by kernel_rfl)).1
     have h1 : σ[1]? = some (.cells v (List.replicate k (blank p))) := hs 1 (by decide)
     have h0 : σ[0]? = some (.cells (vs 4) [blank p]) := hs 0 (by decide)
     obtain ⟨A2, c2, q1, q2⟩ := hS.cellsRd (sg h0)
     obtain ⟨v2, w2, hr, hS2, A3, c3, hv3⟩ := run_appO hS (sg h1) q2 (by simp; omega) 84
     have hrep : (List.replicate k (blank p)) ++ [blank p] = (List.replicate (k + 1) (blank p)) := (List.replicate_succ' ..).symm
     rw [hrep] at hS2
     exact rs_run (wanted_none rfl) (exec_app rfl (by simp [Act.eval, f13]) (by simp only [Act.eval]; exact (e16.trans q1)) hr) (sp_set 1 (.cells v2 (List.replicate (k + 1) (blank p))) (by kernel_rfl) (by simp) (by decide) hl hs (by rfl) hS2 ⟨A3, c3, by rw [hv3]; simp⟩)
    apply sc
    ·intro a w' vs σ hS hl hs hk
     have f5 : a.tmps[5]?.getD undef = .pointer (some ⟨b5, 0, none⟩) := sof hk
     exact rp (pt b5 0) (by simp [execOp, Act.eval, f5, go_sem]) hl hs hS
    apply sc
    ·intro a w' vs σ hS hl hs hk
     have f18 : a.tmps[18]?.getD undef = .pointer (some ⟨b5, 0, none⟩) := sf hk 6
     have e17 : a.tmps.getD 17 undef = vs 5 := sk_val hk 5 (by kernel_rfl) rfl rfl
     have p17 : (fun u : Value => ∃ A c, u = .slice A (k + 1) c) (vs 5) := (hk.1 5 (by kernel_rfl)).1
     have f17 := gd e17
     have h2 : σ[2]? = some (.box b5 86 #[v, .bool false]) := hs 2 (by decide)
     obtain ⟨hx, hf, hz⟩ := (hS.box (sg h2)).facts
     obtain ⟨A3, c3, q3⟩ := p17
     exact rstep_store (w2 := w'.setCell ⟨b5, 0, none⟩ (.slice A3 (k + 1) c3)) (wanted_none rfl) rfl (by simp [execOp, Act.eval, f18, e17, f17, q3, hx, hf, hz, go_sem]) (sp_set 2 (.box b5 86 #[vs 5, .bool false]) (by kernel_rfl) (by simp) (by decide) hl hs (by rfl) (by rw [q3]; exact hS.setBox 2 (sg h2)) trivial) trivial
    exact SSteps.nil
   ·intro vs w' hS hv
    have q0 : vs 0 = _ := hv 0 (by decide)
    have q1 : vs 1 = _ := hv 1 (by decide)
    have q2 : vs 2 = _ := hv 2 (by decide)
    have q3 : vs 3 = _ := hv 3 (by decide)
    have q6 : vs 6 = _ := hv 6 (by decide)
    have q5 := hv 5 (by decide)
    obtain ⟨A5, c5, q5⟩ := (show ∃ A c, vs 5 = .slice A (k + 1) c from q5)
    rw [q5] at hS
    have S2 := Lib.hid hS
    simp only [putL, Act.put, Nat.zero_add, Nat.reduceAdd, List.setIfInBounds_toArray, List.set_cons_succ, List.set_cons_zero, q0, q1, q2, q3, q6]
    clear hS hv q0 q1 q2 q3 q6
    go_wp2_with fail
    go_roundw
    case rel => exact ⟨k + 1, .slice A5 (k + 1) c5, by omega, by go_num, S2.out.tail⟩
    case measure => simp [intOf]; omega
  ·obtain rfl : k = n := by omega
   obtain ⟨hx5, hf5, hz5⟩ := (S.out.box (k := 1) rfl).facts
   obtain ⟨hx4, hf4, hz4⟩ := (S.out.box (k := 2) rfl).facts
   obtain ⟨A, c, hv, -⟩ := S.out.cellsRd (k := 0) rfl
   rw [List.length_replicate] at hv
   subst hv
   go_wp2_with fail
   have S2 := S.out.setLine 2 (.slice A k c) false rfl
   refine bodyPost_ret (results_c1 Tryd.results59 _ _ b4 _ _ rfl (S2.box (k := 2) rfl) Tryd.underlying86 rfl line_size) rfl ?_
   exact ⟨_, rfl, S2.drop2.drop2.drop2⟩

def wipeC (a m : Nat) (p : Pen) (cs : List Cell) : List Cell := cs.take a ++ List.replicate m (blank p) ++ cs.drop (a + m)
theorem wipeC_length {a m : Nat} {p : Pen} {cs : List Cell} (h : a + m ≤ cs.length) : (wipeC a m p cs).length = cs.length := by simp [wipeC]; omega
theorem wipeC_zero (a : Nat) (p : Pen) (cs : List Cell) : wipeC a 0 p cs = cs := by simp [wipeC]
theorem wipeC_succ {a k : Nat} {p : Pen} {cs : List Cell} (h : a + k < cs.length) : (wipeC a k p cs).set (a + k) (blank p) = wipeC a (k + 1) p cs := by
 unfold wipeC
 rw [List.set_append_right _ _ (by simp; omega)]
 rw [show a + k - (cs.take a ++ List.replicate k (blank p)).length = 0 by simp; omega]
 rw [show cs.drop (a + k) = cs[a + k] :: cs.drop (a + k + 1) from List.drop_eq_getElem_cons h]
 rw [List.set_cons_zero, List.replicate_succ']
 simp [Nat.add_assoc]
set_option maxRecDepth 100000 in
set_option maxHeartbeats 2000000 in
theorem wipe_front (g n cap a m c : Nat) (cs : List Cell) (p : Pen) (w0 w : World) (os : List Ob) (hS : Objs w0 w (.cells (.slice (some ⟨g, 0, none⟩) n cap) cs :: os)) (ham : a + m ≤ cs.length) (hmc : m ≤ c) (hlen : cs.length ≤ 1000000) :
  Calls Tryd.prog 85 #[.slice (some ⟨g, a * 16, none⟩) m c, .agg (pv p)] w fun e w' => e = .returned (.tuple #[]) ∧ Objs w0 w' (.cells (.slice (some ⟨g, 0, none⟩) n cap) (wipeC a m p cs) :: os) := by
 have S0 := Lib.hid hS
 have HAM := Lib.hid ham
 have HLEN := Lib.hid hlen
 have hm6 : m ≤ 1000000 := by omega
 clear hS ham hlen
 go_enter Tryd.func85, Tryd.ntmps85
 go_wp2_with fail
 go_loopw [4, 7] (fun _ i wr => ∃ k : Nat, k ≤ m ∧ i = .int .i64 k ∧ Objs w0 wr (.box w.heap.size 29 (pv p) :: .cells (.slice (some ⟨g, 0, none⟩) n cap) (wipeC a k p cs) :: os)) (fun _ i _ => m - (intOf i).toNat)
 case atStart => exact ⟨0, Nat.zero_le _, rfl, by rw [wipeC_zero]; exact S0.out.alloc1⟩
 case round =>
  obtain ⟨k, hk, rfl, hS⟩ := hrel
  have S := Lib.hid hS
  clear hS
  by_cases hlt : k < m
  ·obtain ⟨hx3, hf3, hz3, hp3⟩ := (S.out.box (k := 0) rfl).pbox
   go_wp2_with fail
   refine (pure_call (cellBlank_any _ _) S.out).mono ?_
   rintro e w2 ⟨rfl, hS2⟩
   obtain ⟨W, hst, ho, hg⟩ := (hS2.own (k := 1) rfl).putAt (k := a + k) (by rw [wipeC_length (by have := HAM.out; omega)]; have := HAM.out; omega) (blank p)
   rw [wipeC_succ (by have := HAM.out; omega)] at ho
   have S3 := Lib.hid (hS2.cellsUpd (k := 1) rfl ho hg)
   rw [Nat.add_mul] at hst
   clear hS2 ho hg hx3 hf3 hz3 hp3
   go_wp2_with fail
   go_roundw
   case rel => exact ⟨k + 1, by omega, by go_num, S3.out⟩
   case measure => simp [intOf]; omega
  ·obtain rfl : k = m := by omega
   go_wp2_with fail
   go_end0
   exact ⟨rfl, S.out.tail⟩

set_option maxRecDepth 100000 in
set_option maxHeartbeats 2000000 in
theorem gridblanks_any (n : Nat) (hn : n ≤ 1000) (p : Pen) (w0 w : World) (os : List Ob) (hS : Objs w0 w os) :
  Calls Tryd.prog 33 #[.int .i64 n, .agg (pv p)] w fun e w' => ∃ v, e = .returned (.agg #[v, .bool false]) ∧ Objs w0 w' (.cells v (List.replicate n (blank p)) :: os) := by
 have S0 := Lib.hid hS
 clear hS
 go_enter Tryd.func33, Tryd.ntmps33
 go_wp2_with fail
 refine (pure_call (cellBlank_any _ _) S0.out.alloc2).mono ?_
 rintro e w1 ⟨rfl, hS⟩
 have S1 := Lib.hid hS
 clear hS
 go_wp2_with (refine wpList_bs1 rfl _ rfl (blank p) rfl ?_)
 refine (repeat_any (blank p) n hn _ _ _ (RdC.lit _ _)).mono ?_
 rintro e w2 ⟨v, rfl, ho, hb⟩
 have S2 := Lib.hid (S1.out.newCells (bel1 hb) (own_low ho (by simp)))
 clear ho hb
 obtain ⟨hx, hf, hz⟩ := (S2.out.box (k := 1) rfl).facts
 obtain ⟨A, c, hv, -⟩ := S2.out.cellsRd (k := 0) rfl
 rw [List.length_replicate] at hv
 subst hv
 go_wp2_with fail
 have S3 := S2.out.setLine 1 (.slice A n c) false rfl
 refine bodyPost_ret (results_c1 Tryd.results33 _ _ (w.heap.size + 1) _ _ rfl (S3.box (k := 1) rfl) Tryd.underlying86 rfl line_size) rfl ?_
 exact ⟨_, rfl, S3.drop2.drop2⟩
end Go.Proofs.YtdndoikgnohkkaaDoor

namespace Go.Proofs.YtdndoikgnohkkaaDoor
open Go.RowKit

def Rect (n : Nat) (L : List Ln) : Prop := ∀ l ∈ L, l.1.length = n
theorem Rect.at_ {n : Nat} {L : List Ln} (h : Rect n L) {i : Nat} {l : Ln} (hl : L[i]? = some l) : l.1.length = n := h l (List.mem_of_getElem? hl)
def thereE (row : Int) (L : List Ln) : Int := if 0 ≤ row ∧ row < L.length then 0 else 3
def atE (row col : Int) (cols : Nat) (L : List Ln) : Int := if (0 ≤ row ∧ row < L.length) ∧ (0 ≤ col ∧ col < cols) then 0 else 3
theorem there_cases (row : Int) (L : List Ln) : (row < 0 ∧ Hid (thereE row L = 3)) ∨ ((0 ≤ row ∧ row < L.length) ∧ Hid (thereE row L = 0)) ∨ ((0 ≤ row ∧ (L.length : Int) ≤ row) ∧ Hid (thereE row L = 3)) := by
 by_cases h : row < 0
 ·exact .inl ⟨h, Lib.hid (if_neg (by omega))⟩
 ·by_cases h2 : row < L.length
  ·exact .inr (.inl ⟨⟨by omega, h2⟩, Lib.hid (if_pos ⟨by omega, h2⟩)⟩)
  ·exact .inr (.inr ⟨⟨by omega, by omega⟩, Lib.hid (if_neg (by omega))⟩)
theorem at_cases {row : Int} {L : List Ln} (hr : 0 ≤ row ∧ row < L.length) (col : Int) (cols : Nat) : (col < 0 ∧ Hid (atE row col cols L = 3)) ∨ ((0 ≤ col ∧ col < cols) ∧ Hid (atE row col cols L = 0)) ∨ ((0 ≤ col ∧ (cols : Int) ≤ col) ∧ Hid (atE row col cols L = 3)) := by
 by_cases h : col < 0
 ·exact .inl ⟨h, Lib.hid (if_neg (by omega))⟩
 ·by_cases h2 : col < cols
  ·exact .inr (.inl ⟨⟨by omega, h2⟩, Lib.hid (if_pos ⟨hr, by omega, h2⟩)⟩)
  ·exact .inr (.inr ⟨⟨by omega, by omega⟩, Lib.hid (if_neg (by omega))⟩)
section
variable {w0 w : World} {os : List Ob} {k p : Nat} {cols : Nat} {L : List Ln}
theorem none_no (hS : Objs w0 w os) (hk : os[k]? = some (.grid p 83 cols L)) (hc : 0 < cols) : Calls Tryd.prog 47 #[.pointer (some ⟨p, 0, none⟩)] w fun e w' => e = .returned (.bool false) ∧ Objs w0 w' os := by
 obtain ⟨A, c, hB, -, -⟩ := hS.gridRd hk
 obtain ⟨hx, hf, hz⟩ := hB.facts
 have h0 : ((cols : Int) == 0) = false := by simp; omega
 have S := Lib.hid hS
 clear hS
 go_enter Tryd.func47, Tryd.ntmps47
 go_wp2_with fail
 go_ret
 exact ⟨rfl, S.out⟩
theorem Rows_any {cols : Int} {t : TypeId} (hS : Objs w0 w os) (hk : os[k]? = some (.grid p t cols L)) : Calls Tryd.prog 28 #[.pointer (some ⟨p, 0, none⟩)] w fun e w' => e = .returned (.int .i64 L.length) ∧ Objs w0 w' os := by
 obtain ⟨A, c, hB, hm, hr⟩ := hS.gridRd hk
 have hlen : L.length ≤ 9223372036854775807 := by have := hr.1; unfold maxLen at hm; omega
 obtain ⟨hx, hf, hz⟩ := hB.facts
 have S := Lib.hid hS
 clear hS hr hm
 go_enter Tryd.func28, Tryd.ntmps28
 go_wp2_with fail
 go_ret
 exact ⟨rfl, S.out⟩
theorem Cols_any {cols : Int} {t : TypeId} (hS : Objs w0 w os) (hk : os[k]? = some (.grid p t cols L)) : Calls Tryd.prog 29 #[.pointer (some ⟨p, 0, none⟩)] w fun e w' => e = .returned (.int .i64 cols) ∧ Objs w0 w' os := by
 obtain ⟨A, c, hB, hm, hr⟩ := hS.gridRd hk
 obtain ⟨hx, hf, hz⟩ := hB.facts
 have S := Lib.hid hS
 clear hS hr hm
 go_enter Tryd.func29, Tryd.ntmps29
 go_wp2_with fail
 go_ret
 exact ⟨rfl, S.out⟩
set_option maxHeartbeats 400000 in
theorem there_any (row : Int) (hS : Objs w0 w os) (hk : os[k]? = some (.grid p 83 cols L)) (hc : 0 < cols) : Calls Tryd.prog 46 #[.pointer (some ⟨p, 0, none⟩), .int .i64 row] w fun e w' => e = .returned (.int .i64 (thereE row L)) ∧ Objs w0 w' os := by
 have S := Lib.hid hS
 obtain ⟨A0, c0, hB0, hm, hr⟩ := hS.gridRd hk
 have hlen : L.length ≤ 9223372036854775807 := by have := hr.1; unfold maxLen at hm; omega
 clear hS hB0 hr hm
 have HK := Lib.hid hk
 clear hk
 rcases there_cases row L with ⟨h, HT⟩ | ⟨⟨h, h2⟩, HT⟩ | ⟨⟨h, h2⟩, HT⟩
 all_goals
  go_enter Tryd.func46, Tryd.ntmps46
  go_wp2_with fail
  refine (none_no S.out HK.out hc).mono ?_
  rintro e w1 ⟨rfl, hS⟩
  obtain ⟨A, c, hB, -, -⟩ := hS.gridRd HK.out
  obtain ⟨hx, hf, hz⟩ := hB.facts
  have S1 := Lib.hid hS
  clear hS hB
  go_wp2_with fail
  go_ret
  exact ⟨by rw [HT.out]; rfl, S1.out⟩
set_option maxHeartbeats 400000 in
theorem at_any (row col : Int) (hS : Objs w0 w os) (hk : os[k]? = some (.grid p 83 cols L)) (hc : 0 < cols) : Calls Tryd.prog 70 #[.pointer (some ⟨p, 0, none⟩), .int .i64 row, .int .i64 col] w fun e w' => e = .returned (.int .i64 (atE row col cols L)) ∧ Objs w0 w' os := by
 have S := Lib.hid hS
 have HK := Lib.hid hk
 clear hS hk
 by_cases hr : 0 ≤ row ∧ row < L.length
 case neg =>
  have HT := Lib.hid (show atE row col cols L = 3 by unfold atE; rw [if_neg (by omega)])
  have HE := Lib.hid (show thereE row L = 3 by unfold thereE; rw [if_neg hr])
  clear hr
  go_enter Tryd.func70, Tryd.ntmps70
  go_wp2_with fail
  refine (there_any row S.out HK.out hc).mono ?_
  rw [HE.out]
  rintro e w1 ⟨rfl, hS⟩
  have S1 := Lib.hid hS
  clear hS
  go_wp2_with fail
  go_ret
  exact ⟨by rw [HT.out]; rfl, S1.out⟩
 have HE := Lib.hid (show thereE row L = 0 by unfold thereE; rw [if_pos hr])
 rcases at_cases hr col cols with ⟨h, HT⟩ | ⟨⟨h, h2⟩, HT⟩ | ⟨⟨h, h2⟩, HT⟩
 all_goals
  clear hr
  go_enter Tryd.func70, Tryd.ntmps70
  go_wp2_with fail
  refine (there_any row S.out HK.out hc).mono ?_
  rw [HE.out]
  rintro e w1 ⟨rfl, hS⟩
  obtain ⟨A, c, hB, -, -⟩ := hS.gridRd HK.out
  obtain ⟨hx, hf, hz⟩ := hB.facts
  have S1 := Lib.hid hS
  clear hS hB
  go_wp2_with fail
  go_ret
  exact ⟨by rw [HT.out]; rfl, S1.out⟩
end
theorem inked_any (q : Pen) {w0 w : World} {os : List Ob} (hT : Tabs w0) (hS : Objs w0 w os) : Calls Tryd.prog 84 #[.agg (pv q)] w fun e w' => e = .returned (.bool q.ok) ∧ Objs w0 w' os := by
 have S := Lib.hid hS
 have HT := Lib.hid hT
 clear hS hT
 go_enter Tryd.func84, Tryd.ntmps84
 go_wp2_with fail
 refine (pure_call (cellBlank_any _ _) S.out.alloc1).mono ?_
 rintro e w1 ⟨rfl, hS⟩
 have S1 := Lib.hid hS
 clear hS
 go_wp2_with fail
 refine (pure_call (cellValid_any _ _ (S1.out.tabs HT.out)) S1.out).mono ?_
 rw [ok_blank]
 rintro e w2 ⟨rfl, hS⟩
 have S2 := Lib.hid hS
 clear hS
 go_wp2_with fail
 go_ret
 exact ⟨rfl, S2.out.tail⟩
section
variable {w0 w : World} {os : List Ob} {k p : Nat} {cols : Nat} {L : List Ln}
set_option maxHeartbeats 400000 in
theorem Cell_yes {i j : Nat} {l : Ln} {x : Cell} (hS : Objs w0 w os) (hk : os[k]? = some (.grid p 83 cols L)) (hc : 0 < cols) (hj : j < cols) (hl : L[i]? = some l) (hx : l.1[j]? = some x) :
  Calls Tryd.prog 69 #[.pointer (some ⟨p, 0, none⟩), .int .i64 i, .int .i64 j] w fun e w' => e = .returned (.tuple #[.agg (cv x), .int .i64 0]) ∧ Objs w0 w' os := by
 have S := Lib.hid hS
 have HK := Lib.hid hk
 have HL := Lib.hid hl
 have HX := Lib.hid hx
 have hi : i < L.length := (List.getElem?_eq_some_iff.1 hl).1
 have hj2 : j < l.1.length := (List.getElem?_eq_some_iff.1 hx).1
 have HE := Lib.hid (show atE i j cols L = 0 by unfold atE; rw [if_pos ⟨⟨by omega, by omega⟩, by omega, by omega⟩])
 clear hS hk hl hx
 go_enter Tryd.func69, Tryd.ntmps69
 go_wp2_with fail
 refine (at_any i j S.out.alloc1 (k := k + 1) HK.out hc).mono ?_
 rw [HE.out]
 rintro e w1 ⟨rfl, hS⟩
 have S1 := Lib.hid hS
 obtain ⟨A, c, hB, hm, hr⟩ := hS.gridRd (k := k + 1) HK.out
 have hlen : L.length ≤ 9223372036854775807 := by have := hr.1; unfold maxLen at hm; omega
 obtain ⟨hx0, hf0, hz0⟩ := hB.facts
 obtain ⟨b, off, A', c', rfl, hz1, hc1, hc2, hrd⟩ := hr.at_ HL.out
 obtain ⟨b2, off2, rfl, hz2, hrg⟩ := hrd.at_ hj2
 have hce := elem_cell hrg hj2
 have hcx : l.1[j] = x := by have := HX.out; simpa [hj2] using this
 rw [hcx] at hce
 obtain ⟨hx6, hf6, hz6⟩ := (hS.box (k := 0) rfl).facts
 have hst := store_cv_row w1 w.heap.size (cv cell0) x (hS.box (k := 0) rfl) (cv_size _)
 clear hS hB hm hr hrd hrg hcx
 go_wp2_with fail
 have S2 := S1.out.rowBox 0 (ds := cv x) rfl
 refine bodyPost_ret (results_ct Tryd.results69 _ _ w.heap.size _ _ rfl (S2.box (k := 0) rfl) Tryd.underlying61 rfl cell_size) rfl ?_
 exact ⟨rfl, S2.tail⟩
end
end Go.Proofs.YtdndoikgnohkkaaDoor

namespace Go.Proofs.YtdndoikgnohkkaaDoor
open Go.RowKit

open Classical in
noncomputable def recAt (w : World) (b o n : Nat) : Option (Array Value) := if h : ∃ cs : Array Value, cs.size = n ∧ w.rangeAt b o cs.toList then some h.choose else none
theorem recAt_of {w : World} {b o n : Nat} {cs : Array Value} (hn : cs.size = n) (h : w.rangeAt b o cs.toList) : recAt w b o n = some cs := by
 have hx : ∃ cs : Array Value, cs.size = n ∧ w.rangeAt b o cs.toList := ⟨cs, hn, h⟩
 unfold recAt
 rw [dif_pos hx]
 exact congrArg some (rangeAt_det (by rw [hx.choose_spec.1, hn]) hx.choose_spec.2 h)
theorem range_of_recAt {w : World} {b o n : Nat} {cs : Array Value} (h : recAt w b o n = some cs) : cs.size = n ∧ w.rangeAt b o cs.toList := by
 unfold recAt at h
 split at h
 ·rename_i hx; have := hx.choose_spec; rw [Option.some.inj h] at this; exact this
 ·cases h
theorem recAt_same {w w' : World} {b : Nat} (h : ∀ i, w'.cell? ⟨b, i, none⟩ = w.cell? ⟨b, i, none⟩) (o n : Nat) : recAt w' b o n = recAt w b o n := by
 cases h1 : recAt w b o n with
 | some c => exact recAt_of (range_of_recAt h1).1 ((rangeAt_same h).2 (range_of_recAt h1).2)
 | none =>
  cases h2 : recAt w' b o n with
  | none => rfl
  | some c => rw [recAt_of (range_of_recAt h2).1 ((rangeAt_same h).1 (range_of_recAt h2).2)] at h1; cases h1
@[go_sem] theorem recAt_alloc (w : World) (ob : Obj) (b o n : Nat) (h : b < w.heap.size) : recAt (w.alloc ob) b o n = recAt w b o n := recAt_same (fun i => World.cell?_alloc_lt w ob ⟨b, i, none⟩ h) o n
theorem recAt_below {w w' : World} {B b : Nat} (hb : Below B w w') (h : b < B) (o n : Nat) : recAt w' b o n = recAt w b o n := recAt_same (fun i => hb.cell (p := ⟨b, i, none⟩) h) o n
@[go_sem] theorem recAt_plus (w x : World) (b o n : Nat) (h : b < w.heap.size) : recAt (plus w x) b o n = recAt w b o n := recAt_same (fun i => cell_plus w x b i h) o n
@[go_sem] theorem recAt_drew (w : World) (b o n : Nat) : recAt w.drew b o n = recAt w b o n := rfl
theorem Blk.recAt {w : World} {g : Nat} {t : TypeId} {cs : Array Value} (h : Blk w g t cs) (n : Nat) (hn : cs.size = n) : Proofs.YtdndoikgnohkkaaDoor.recAt w g 0 n = some cs := recAt_of hn h.range
def ldR (a : Addr) (n : Nat) : Sem (Array Value) := loadCells a n
theorem ldR_of {w : World} {b o n : Nat} {cs : Array Value} (h : recAt w b o n = some cs) : (ldR ⟨b, o, none⟩ n).run Tryd.prog w = .ok cs w := by
 obtain ⟨hn, hr⟩ := range_of_recAt h
 have := run_loadCells_list (P := Tryd.prog) w ⟨b, o, none⟩ cs.toList (fun j v hv => by rw [add_at]; exact hr j v hv)
 subst hn
 simpa [ldR] using this
@[go_sem] theorem run_ldC_row (w : World) (b o : Nat) (h : (recAt w b o 16).isSome = true) : (ldC ⟨b, o, none⟩).run Tryd.prog w = .ok ((recAt w b o 16).getD #[]) w := by
 obtain ⟨c, hc⟩ := Option.isSome_iff_exists.1 h
 rw [hc]; exact ldR_of hc
@[go_sem] theorem run_ldR (w : World) (b o n : Nat) (h : (recAt w b o n).isSome = true) : (ldR ⟨b, o, none⟩ n).run Tryd.prog w = .ok ((recAt w b o n).getD #[]) w := by
 obtain ⟨c, hc⟩ := Option.isSome_iff_exists.1 h
 rw [hc]; exact ldR_of hc
def RdRec (w : World) (A : Option Addr) (c k : Nat) (rs : List (Array Value)) : Prop := rs.length ≤ c ∧ (A = none → c = 0) ∧ (0 < rs.length → ∃ b off, A = some ⟨b, off, none⟩ ∧ b < w.heap.size ∧ ∀ (i : Nat) (r : Array Value), rs[i]? = some r → recAt w b (off + i * k) k = some r)
theorem RdRec.bel {w w' : World} {A : Option Addr} {c k : Nat} {rs : List (Array Value)} (h : RdRec w A c k rs) (hb : Below w.heap.size w w') : RdRec w' A c k rs := ⟨h.1, h.2.1, fun hn => by
 obtain ⟨b, off, rfl, hz, hr⟩ := h.2.2 hn
 exact ⟨b, off, rfl, by have := hb.size; omega, fun i r hi => (recAt_below hb hz _ _).trans (hr i r hi)⟩⟩
theorem RdRec.at_ {w : World} {A : Option Addr} {c k : Nat} {rs : List (Array Value)} (h : RdRec w A c k rs) {i : Nat} {r : Array Value} (hi : rs[i]? = some r) : ∃ b off, A = some ⟨b, off, none⟩ ∧ b < w.heap.size ∧ recAt w b (off + i * k) k = some r := by
 have hl := (List.getElem?_eq_some_iff.1 hi).1
 obtain ⟨b, off, rfl, hz, hr⟩ := h.2.2 (by omega)
 exact ⟨b, off, rfl, hz, hr i r hi⟩
end Go.Proofs.YtdndoikgnohkkaaDoor

namespace Go.Proofs.YtdndoikgnohkkaaDoor
open Go.RowKit

structure Saved where
 row : Int
 col : Int
 pend : Bool
 q : Pen
 org : Bool
 s0 : Int
 s1 : Int
 act : Int
def saved0 : Saved := ⟨0, 0, false, pen0, false, 0, 0, 0⟩
def sv (s : Saved) : Array Value := #[.int .i64 s.row, .int .i64 s.col, .bool s.pend, .int .i64 s.q.fk, .int .u8 s.q.fi, .int .u8 s.q.fr, .int .u8 s.q.fg, .int .u8 s.q.fb, .int .i64 s.q.bk, .int .u8 s.q.bi, .int .u8 s.q.br, .int .u8 s.q.bg, .int .u8 s.q.bb, .int .u8 s.q.fl, .bool s.org, .int .i64 s.s0, .int .i64 s.s1, .int .i64 s.act]
@[go_sem] theorem sv_size (s : Saved) : (sv s).size = 18 := by simp [sv]
theorem sv_one (s : Saved) : ∀ v ∈ (sv s).toList, v.oneCell' = true := by simp [sv, Value.oneCell']
theorem sv_all (s : Saved) : (sv s).all (·.oneCell') = true := by simp [sv, Value.oneCell']
def Saved.key (s : Saved) : List Int := [s.row, s.col, s.s0, s.s1, s.act] ++ s.q.ints
theorem Saved.key_inj {a b : Saved} (h : a.key = b.key) (h1 : a.pend = b.pend) (h2 : a.org = b.org) : a = b := by
 obtain ⟨a0, a1, a2, ⟨a3, a4, a5, a6, a7, a8, a9, a10, a11, a12, a13⟩, a14, a15, a16, a17⟩ := a
 obtain ⟨b0, b1, b2, ⟨b3, b4, b5, b6, b7, b8, b9, b10, b11, b12, b13⟩, b14, b15, b16, b17⟩ := b
 simp only at h1 h2
 subst h1 h2
 simp [Saved.key, Pen.ints, and_assoc] at h
 simp [h]
instance : DecidableEq Saved := fun p q => if h : p.key = q.key ∧ p.pend = q.pend ∧ p.org = q.org then isTrue (Saved.key_inj h.1 h.2.1 h.2.2) else isFalse (fun e => h (by rw [e]; exact ⟨rfl, rfl, rfl⟩))
@[simp high, go_sem high] theorem sv_get0 (s : Saved) : (sv s)[0]? = some (.int .i64 s.row) := by simp [sv]
@[simp high, go_sem high] theorem sv_at0 (s : Saved) (h : 0 < (sv s).size) : (sv s)[0]'h = .int .i64 s.row := by simp [sv]
@[simp high, go_sem high] theorem sv_get1 (s : Saved) : (sv s)[1]? = some (.int .i64 s.col) := by simp [sv]
@[simp high, go_sem high] theorem sv_at1 (s : Saved) (h : 1 < (sv s).size) : (sv s)[1]'h = .int .i64 s.col := by simp [sv]
@[simp high, go_sem high] theorem sv_get2 (s : Saved) : (sv s)[2]? = some (.bool s.pend) := by simp [sv]
@[simp high, go_sem high] theorem sv_at2 (s : Saved) (h : 2 < (sv s).size) : (sv s)[2]'h = .bool s.pend := by simp [sv]
@[simp high, go_sem high] theorem sv_get14 (s : Saved) : (sv s)[14]? = some (.bool s.org) := by simp [sv]
@[simp high, go_sem high] theorem sv_at14 (s : Saved) (h : 14 < (sv s).size) : (sv s)[14]'h = .bool s.org := by simp [sv]
@[simp high, go_sem high] theorem sv_get15 (s : Saved) : (sv s)[15]? = some (.int .i64 s.s0) := by simp [sv]
@[simp high, go_sem high] theorem sv_at15 (s : Saved) (h : 15 < (sv s).size) : (sv s)[15]'h = .int .i64 s.s0 := by simp [sv]
@[simp high, go_sem high] theorem sv_get16 (s : Saved) : (sv s)[16]? = some (.int .i64 s.s1) := by simp [sv]
@[simp high, go_sem high] theorem sv_at16 (s : Saved) (h : 16 < (sv s).size) : (sv s)[16]'h = .int .i64 s.s1 := by simp [sv]
@[simp high, go_sem high] theorem sv_get17 (s : Saved) : (sv s)[17]? = some (.int .i64 s.act) := by simp [sv]
@[simp high, go_sem high] theorem sv_at17 (s : Saved) (h : 17 < (sv s).size) : (sv s)[17]'h = .int .i64 s.act := by simp [sv]
theorem sv_pen {w : World} {b o : Nat} {a : Saved} (h : w.rangeAt b o (sv a).toList) : penAt w b (o + 3) = some a.q := penAt_of fun j v hv => by
 have hj : j < 11 := by have := (List.getElem?_eq_some_iff.1 hv).1; simpa [pv] using this
 have := h (3 + j) v (by rw [← hv, ← List.getElem?_drop]; rw [show ((sv a).toList.drop 3)[j]? = (((sv a).toList.drop 3).take 11)[j]? from by rw [List.getElem?_take, if_pos hj]]; rfl)
 rw [show o + 3 + j = o + (3 + j) by omega]; exact this
@[go_sem ↓] theorem load_ldR18 (a : Addr) : loadCellsFrom a 0 18 #[] = ldR a 18 := rfl
@[go_sem ↓] theorem load_ldR50 (a : Addr) : loadCellsFrom a 0 50 #[] = ldR a 50 := rfl
theorem saved_size : (Tryd.prog.info? 35).map (·.size) = some 18 := by kernel_rfl
theorem Blk.saved {w : World} {g : Nat} {t : TypeId} {a : Saved} (h : Blk w g t (sv a)) : (∀ i, w.cell? ⟨g, i, none⟩ = (sv a)[i]?) ∧ (∀ i, w.frozen? ⟨g, i, none⟩ = false) ∧ g < w.heap.size ∧ Proofs.YtdndoikgnohkkaaDoor.recAt w g 0 18 = some (sv a) ∧ Proofs.YtdndoikgnohkkaaDoor.penAt w g 3 = some a.q :=
 ⟨h.cell, h.frozen, h.lt, h.recAt 18 (sv_size a), by have := sv_pen h.range; simpa using this⟩
@[go_sem] theorem store_sv_new {b : Nat} (w : World) (zs : Array Value) (c : Saved) (hb : b = w.heap.size) (hz : zs.size = 18) :
  (storeCells ⟨b, 0, none⟩ (sv c).toList 0).run Tryd.prog (w.alloc (.cells zs 35)) = .ok () (w.alloc (.cells (sv c) 35)) := by
 subst hb
 exact run_storeCells_new w 35 zs (sv c) (by rw [saved_size]; rfl) hz (sv_all c)
theorem store_sv_row (w : World) (g : Nat) (zs : Array Value) (c : Saved) (h : Blk w g 35 zs) (hz : zs.size = 18) :
  (storeCells ⟨g, 0, none⟩ (sv c).toList 0).run Tryd.prog w = .ok () (w.setRow g (sv c)) := by
 have := run_storeVar_row (P := Tryd.prog) w g 35 35 zs (sv c) h (by rw [saved_size]; rfl) (by rw [hz]; rfl) (sv_all c)
 cases hq : Tryd.prog.info? 35 with
 | none => have := saved_size; simp [hq] at this
 | some i =>
  have hs : 18 = i.size := by have := saved_size; simp [hq] at this; omega
  simpa [storeVar, sizeOf, typeInfo, hq, Value.cells, ← hs, sv_size] using this
def pw (row col : Int) (x : Cell) : Array Value := #[.int .i64 row, .int .i64 col, .int .i32 x.rune, .int .i32 x.m0, .int .i32 x.m1, .int .i32 x.m2, .int .i64 x.width, .int .i64 x.pen.fk, .int .u8 x.pen.fi, .int .u8 x.pen.fr, .int .u8 x.pen.fg, .int .u8 x.pen.fb, .int .i64 x.pen.bk, .int .u8 x.pen.bi, .int .u8 x.pen.br, .int .u8 x.pen.bg, .int .u8 x.pen.bb, .int .u8 x.pen.fl]
@[go_sem] theorem pw_size (r c : Int) (x : Cell) : (pw r c x).size = 18 := by simp [pw]
theorem pw_all (r c : Int) (x : Cell) : (pw r c x).all (·.oneCell') = true := by simp [pw, Value.oneCell']
@[simp high, go_sem high] theorem pw_get0 (r c : Int) (x : Cell) : (pw r c x)[0]? = some (.int .i64 r) := by simp [pw]
@[simp high, go_sem high] theorem pw_get1 (r c : Int) (x : Cell) : (pw r c x)[1]? = some (.int .i64 c) := by simp [pw]
@[simp high, go_sem high] theorem pw_get6 (r c : Int) (x : Cell) : (pw r c x)[6]? = some (.int .i64 x.width) := by simp [pw]
theorem pw_cell {w : World} {b o : Nat} {r c : Int} {x : Cell} (h : w.rangeAt b o (pw r c x).toList) : cellAt w b (o + 2) = some x := cellAt_of fun j v hv => by
 have hj : j < 16 := by have := (List.getElem?_eq_some_iff.1 hv).1; simpa [cv] using this
 have := h (2 + j) v (by rw [← hv, ← List.getElem?_drop]; rw [show ((pw r c x).toList.drop 2)[j]? = (((pw r c x).toList.drop 2).take 16)[j]? from by rw [List.getElem?_take, if_pos hj]]; rfl)
 rw [show o + 2 + j = o + (2 + j) by omega]; exact this
theorem Blk.put24 {w : World} {g : Nat} {t : TypeId} {r c : Int} {x : Cell} (h : Blk w g t (pw r c x)) : (∀ i, w.cell? ⟨g, i, none⟩ = (pw r c x)[i]?) ∧ (∀ i, w.frozen? ⟨g, i, none⟩ = false) ∧ g < w.heap.size ∧ Proofs.YtdndoikgnohkkaaDoor.recAt w g 0 18 = some (pw r c x) ∧ Proofs.YtdndoikgnohkkaaDoor.cellAt w g 2 = some x :=
 ⟨h.cell, h.frozen, h.lt, h.recAt 18 (pw_size r c x), by have := pw_cell h.range; simpa using this⟩
theorem put24_size : (Tryd.prog.info? 63).map (·.size) = some 18 := by kernel_rfl
@[go_sem] theorem store_pw_new {b : Nat} (w : World) (zs : Array Value) (r c : Int) (x : Cell) (hb : b = w.heap.size) (hz : zs.size = 18) :
  (storeCells ⟨b, 0, none⟩ (pw r c x).toList 0).run Tryd.prog (w.alloc (.cells zs 63)) = .ok () (w.alloc (.cells (pw r c x) 63)) := by
 subst hb
 exact run_storeCells_new w 63 zs (pw r c x) (by rw [put24_size]; rfl) hz (pw_all r c x)
@[go_sem] theorem fold_pw (r c : Int) (x : Cell) : (#[.int .i64 r, .int .i64 c, .int .i32 x.rune, .int .i32 x.m0, .int .i32 x.m1, .int .i32 x.m2, .int .i64 x.width, .int .i64 x.pen.fk, .int .u8 x.pen.fi, .int .u8 x.pen.fr, .int .u8 x.pen.fg, .int .u8 x.pen.fb, .int .i64 x.pen.bk, .int .u8 x.pen.bi, .int .u8 x.pen.br, .int .u8 x.pen.bg, .int .u8 x.pen.bb, .int .u8 x.pen.fl] : Array Value) = pw r c x := by simp [pw]
@[go_sem] theorem fill_pw (r c : Int) (x : Cell) : Array.foldl (fun cs x => cs.setIfInBounds (2 + x.snd) x.fst) (#[.int .i64 r, .int .i64 c, .int .i32 0, .int .i32 0, .int .i32 0, .int .i32 0, .int .i64 0, .int .i64 0, .int .u8 0, .int .u8 0, .int .u8 0, .int .u8 0, .int .i64 0, .int .u8 0, .int .u8 0, .int .u8 0, .int .u8 0, .int .u8 0] : Array Value) (cv x).zipIdx 0 16 = pw r c x := by
 simp [cv, pw, Array.zipIdx]
theorem info_ch : (Tryd.prog.info? 30).isSome = true := by kernel_rfl
theorem cellsOf_ch : Tryd.prog.cellsOf 30 = 1 := by kernel_rfl
theorem eqIn_arrCh (d : Nat) (a0 a1 b0 b1 : Int) (w : World) : (Op.equalIn (d + 2) 31 (.agg #[.int .i64 a0, .int .i64 a1]) (.agg #[.int .i64 b0, .int .i64 b1])).run Tryd.prog w = .ok (decide ((a0, a1) = (b0, b1))) w := by
 obtain ⟨i, hi⟩ := Option.isSome_iff_exists.1 info_ch
 have u := Tryd.underlying30
 rw [run_equalIn_array w (d + 1) _ _ Tryd.underlying31 hi, cellsOf_ch]
 simp only [show List.range 2 = [0, 1] from rfl, Op.eqItems]
 by_cases h0 : a0 = b0
 case neg => simp [go_sem, h0]
 by_cases h1 : a1 = b1
 case neg => simp [go_sem, h0, h1]
 simp [go_sem, h0, h1]
theorem eqIn_arrCh_10000 (a0 a1 b0 b1 : Int) (w : World) : (Op.equalIn 10000 31 (.agg #[.int .i64 a0, .int .i64 a1]) (.agg #[.int .i64 b0, .int .i64 b1])).run Tryd.prog w = .ok (decide ((a0, a1) = (b0, b1))) w := eqIn_arrCh 9998 a0 a1 b0 b1 w
theorem eqIn_arrCh_9999 (a0 a1 b0 b1 : Int) (w : World) : (Op.equalIn 9999 31 (.agg #[.int .i64 a0, .int .i64 a1]) (.agg #[.int .i64 b0, .int .i64 b1])).run Tryd.prog w = .ok (decide ((a0, a1) = (b0, b1))) w := eqIn_arrCh 9997 a0 a1 b0 b1 w
theorem eqIn_arrCh_9998 (a0 a1 b0 b1 : Int) (w : World) : (Op.equalIn 9998 31 (.agg #[.int .i64 a0, .int .i64 a1]) (.agg #[.int .i64 b0, .int .i64 b1])).run Tryd.prog w = .ok (decide ((a0, a1) = (b0, b1))) w := eqIn_arrCh 9996 a0 a1 b0 b1 w
set_option maxHeartbeats 4000000 in
theorem eql_savedN (a0 a1 a3 a4 a5 a6 a7 a8 a9 a10 a11 a12 a13 a15 a16 a17 b0 b1 b3 b4 b5 b6 b7 b8 b9 b10 b11 b12 b13 b15 b16 b17 : Int) (a2 a14 b2 b14 : Bool) (w : World) : (binOp .eql 35 (.agg #[.int .i64 a0, .int .i64 a1, .bool a2, .int .i64 a3, .int .u8 a4, .int .u8 a5, .int .u8 a6, .int .u8 a7, .int .i64 a8, .int .u8 a9, .int .u8 a10, .int .u8 a11, .int .u8 a12, .int .u8 a13, .bool a14, .int .i64 a15, .int .i64 a16, .int .i64 a17]) (.agg #[.int .i64 b0, .int .i64 b1, .bool b2, .int .i64 b3, .int .u8 b4, .int .u8 b5, .int .u8 b6, .int .u8 b7, .int .i64 b8, .int .u8 b9, .int .u8 b10, .int .u8 b11, .int .u8 b12, .int .u8 b13, .bool b14, .int .i64 b15, .int .i64 b16, .int .i64 b17])).run Tryd.prog w = .ok (.bool (decide ((⟨a0, a1, a2, ⟨a3, a4, a5, a6, a7, a8, a9, a10, a11, a12, a13⟩, a14, a15, a16, a17⟩ : Saved) = (⟨b0, b1, b2, ⟨b3, b4, b5, b6, b7, b8, b9, b10, b11, b12, b13⟩, b14, b15, b16, b17⟩ : Saved)))) w := by
 simp [go_sem, eqIn_arrCh_10000, eqIn_arrCh_9999, eqIn_arrCh_9998]
 by_cases h0 : a0 = b0
 case neg => simp [h0]
 simp only [h0, if_true, true_and]
 by_cases h1 : a1 = b1
 case neg => simp [h1]
 simp only [h1, if_true, true_and]
 by_cases h2 : a2 = b2
 case neg => simp [h2]
 simp only [h2, if_true, true_and]
 by_cases h3 : a3 = b3
 case neg => simp [h3]
 simp only [h3, if_true, true_and]
 by_cases h4 : a4 = b4
 case neg => simp [h4]
 simp only [h4, if_true, true_and]
 by_cases h5 : a5 = b5
 case neg => simp [h5]
 simp only [h5, if_true, true_and]
 by_cases h6 : a6 = b6
 case neg => simp [h6]
 simp only [h6, if_true, true_and]
 by_cases h7 : a7 = b7
 case neg => simp [h7]
 simp only [h7, if_true, true_and]
 by_cases h8 : a8 = b8
 case neg => simp [h8]
 simp only [h8, if_true, true_and]
 by_cases h9 : a9 = b9
 case neg => simp [h9]
 simp only [h9, if_true, true_and]
 by_cases h10 : a10 = b10
 case neg => simp [h10]
 simp only [h10, if_true, true_and]
 by_cases h11 : a11 = b11
 case neg => simp [h11]
 simp only [h11, if_true, true_and]
 by_cases h12 : a12 = b12
 case neg => simp [h12]
 simp only [h12, if_true, true_and]
 by_cases h13 : a13 = b13
 case neg => simp [h13]
 simp only [h13, if_true, true_and]
 by_cases h14 : a14 = b14
 case neg => simp [h14]
 simp only [h14, if_true, true_and]
 by_cases h15 : a15 = b15
 case neg => simp [h15]
 simp only [h15, if_true, true_and]
 by_cases h16 : a16 = b16
 case neg => simp [h16]
 simp only [h16, if_true, true_and]
 by_cases h17 : a17 = b17
 case neg => simp [h17]
 simp only [h17, if_true, true_and]
 simp
@[go_sem high] theorem eqIn_sv (a b : Saved) (w : World) : (Op.equalIn 10000 35 (.agg (sv a)) (.agg (sv b))).run Tryd.prog w = .ok (decide (a = b)) w := by
 have h := eql_savedN a.row a.col a.q.fk a.q.fi a.q.fr a.q.fg a.q.fb a.q.bk a.q.bi a.q.br a.q.bg a.q.bb a.q.fl a.s0 a.s1 a.act b.row b.col b.q.fk b.q.fi b.q.fr b.q.fg b.q.fb b.q.bk b.q.bi b.q.br b.q.bg b.q.bb b.q.fl b.s0 b.s1 b.act a.pend a.org b.pend b.org w
 rw [run_eql_struct] at h
 change ((Op.equalIn 10000 35 (.agg (sv a)) (.agg (sv b))).run Tryd.prog w).andThen _ = _ at h
 generalize (Op.equalIn 10000 35 (.agg (sv a)) (.agg (sv b))).run Tryd.prog w = r at h
 cases r with
 | ok x w1 => simp only [Result.andThen_ok, Result.ok.injEq, Value.bool.injEq] at h; obtain ⟨rfl, rfl⟩ := h; rfl
 | halt x w1 => cases h

@[go_sem] theorem sv_set0 (c : Saved) (n : Int) : (sv c).setIfInBounds 0 (.int .i64 n) = sv { c with row := n } := by simp [sv]
@[go_sem] theorem sv_set1 (c : Saved) (n : Int) : (sv c).setIfInBounds 1 (.int .i64 n) = sv { c with col := n } := by simp [sv]
@[go_sem] theorem sv_set2 (c : Saved) (b : Bool) : (sv c).setIfInBounds 2 (.bool b) = sv { c with pend := b } := by simp [sv]
@[go_sem] theorem sv_zero : sv ⟨0, 0, false, ⟨0, 0, 0, 0, 0, 0, 0, 0, 0, 0, 0⟩, false, 0, 0, 0⟩ = sv saved0 := rfl
@[go_sem] theorem fold_sv (a0 a1 a3 a4 a5 a6 a7 a8 a9 a10 a11 a12 a13 a15 a16 a17 : Int) (a2 a14 : Bool) : (#[.int .i64 a0, .int .i64 a1, .bool a2, .int .i64 a3, .int .u8 a4, .int .u8 a5, .int .u8 a6, .int .u8 a7, .int .i64 a8, .int .u8 a9, .int .u8 a10, .int .u8 a11, .int .u8 a12, .int .u8 a13, .bool a14, .int .i64 a15, .int .i64 a16, .int .i64 a17] : Array Value) = sv (⟨a0, a1, a2, ⟨a3, a4, a5, a6, a7, a8, a9, a10, a11, a12, a13⟩, a14, a15, a16, a17⟩ : Saved) := by simp [sv]
end Go.Proofs.YtdndoikgnohkkaaDoor

namespace Go.Proofs.YtdndoikgnohkkaaDoor
open Go.RowKit

def tailA (A : Option Addr) (c k : Nat) : Option Addr := if c = k then A else A.map (·.add (k * 16))
theorem run_mid (w : World) (g n c lo hi : Nat) (h1 : lo ≤ hi) (h2 : hi ≤ n) (h3 : n ≤ c) (h4 : lo < c) (h63 : n ≤ 9223372036854775807) : (Instr.slice 84 (.slice (some ⟨g, 0, none⟩) n c) (some (.int .i64 lo)) (some (.int .i64 hi)) none).run Tryd.prog w = .ok (.slice (some ⟨g, lo * 16, none⟩) (hi - lo) (c - lo)) w := by
 have h5 : hi ≤ c := by omega
 have h6 : ¬ c = lo := by omega
 simp [go_sem, h1, h5, h6, add_at]
theorem RdC.from {w : World} {A : Option Addr} {c : Nat} {cs : List Cell} (h : RdC w A c cs) (k : Nat) (hk : k ≤ cs.length) : RdC w (tailA A c k) (c - k) (cs.drop k) := by
 refine ⟨by have := h.1; simp; omega, fun e => ?_, fun hn => ?_⟩
 ·unfold tailA at e
  split at e
  ·omega
  ·have : A = none := by cases A with
    | none => rfl
    | some ad => cases e
   have := h.2.1 this
   omega
 ·simp at hn
  obtain ⟨b, off, e, hlt, hr⟩ := h.2.2 (by omega)
  subst e
  unfold tailA
  rw [if_neg (by have := h.1; omega)]
  exact ⟨b, off + k * 16, by simp [add_at], hlt, RdC.drop hr k⟩
section
variable {w0 w : World} {os : List Ob}
end
theorem exec_slice {o : Oper} {a : Act} {w : World} {x : Operand} {lo hi : Option Operand} {vx u : Value} {vl vh : Option Value} (ho : o.op = .slice 84 x lo hi none) (hx : a.eval x = vx) (hl : lo.map a.eval = vl) (hh : hi.map a.eval = vh) (hr : (Instr.slice 84 vx vl vh none).run Tryd.prog w = .ok u w) : (execOp a.eval o).run Tryd.prog w = .ok (.value u) w := by
 subst hx hl hh
 unfold execOp
 have h : (Instr.sliceAt 84 (a.eval x) (lo.map a.eval) (hi.map a.eval) none).run Tryd.prog w = .ok u w := by
  unfold Instr.sliceAt
  simp only [Sem.run_bind, run_underlying Tryd.underlying84, Result.andThen_ok]
  exact hr
 simp only [ho, Option.map_none, Sem.run_bind, h, Result.andThen_ok, Sem.run_pure]
theorem inked_is {q : Pen} {b : Bool} (h : q.ok = b) {w0 w : World} {os : List Ob} (hT : Tabs w0) (hS : Objs w0 w os) : Calls Tryd.prog 84 #[.agg (pv q)] w fun e w' => e = .returned (.bool b) ∧ Objs w0 w' os := h ▸ inked_any q hT hS
end Go.Proofs.YtdndoikgnohkkaaDoor

namespace Go.Proofs.YtdndoikgnohkkaaDoor
open Go.RowKit

theorem hdrs_set0 {bs : List Value} {L : List Ln} (h : bs.length = L.length) {i : Nat} (hi : i < L.length) (b : Value) (l : Ln) : hdrs (bs.set i b) (L.set i l) = ((hdrs bs L).set (i * 2) b).set (i * 2 + 1) (.bool l.2) := by
 induction bs generalizing L i with
 | nil => cases L with | nil => simp at hi | cons a L => simp at h
 | cons x bs ih => cases L with
  | nil => simp at h
  | cons a L => cases i with
   | zero => rfl
   | succ i =>
    simp only [List.set_cons_succ, hdrs_cons]
    rw [ih (by simpa using h) (by simpa using hi), show (i + 1) * 2 = i * 2 + 1 + 1 by omega]
    rfl
section
variable {w0 w : World} {os : List Ob} {L : List Ln} {v b : Value}
theorem Objs.storeRow {k j i gr n c : Nat} {v2 : Value} {cs : List Cell} {s : Bool} (hS : Objs w0 w os) (hk : os[k]? = some (.linesx (.slice (some ⟨gr, 0, none⟩) n c) L i b)) (hj : os[j]? = some (.cells v2 cs)) (hkj : k ≠ j) (hs : (L[i]?).map (·.2) = some s) :
  Objs w0 (w.setCell ⟨gr, i * 2, none⟩ v2) ((os.set k (.lines (.slice (some ⟨gr, 0, none⟩) n c) (L.set i (cs, s)))).set j .none) := by
 refine hS.join hk hj hkj (fun F G hF hG hd => ?_)
 obtain ⟨bs, q1, q2, q3⟩ := hF
 obtain rfl : n = L.length := by obtain ⟨A', c', e, -⟩ := own_form q1.own; simp only [Value.slice.injEq] at e; exact e.2.1
 have hi : i < L.length := by rw [← q1.len]; exact (List.getElem?_eq_some_iff.1 q2).1
 have hgr : F gr := (q3 gr).2 (.inl rfl)
 have hchg : Chg (fun x => x = gr) w (w.setCell ⟨gr, i * 2, none⟩ v2) := chg_setCell w ⟨gr, i * 2, none⟩ v2
 obtain ⟨h1, h2⟩ := World.ownsRow.stored q1.own (i * 2) v2
 have hl : L.length * 2 = (hdrs bs L).length := (hdrs_length q1.len).symm
 have hset : (hdrs bs L).set (i * 2) v2 = hdrs (bs.set i v2) (L.set i (cs, s)) := by
  rw [hdrs_set0 q1.len hi]
  have : (hdrs bs L)[i * 2 + 1]? = some (.bool s) := by rw [hdrs_at1 q1.len]; cases hq : L[i]? with
   | none => simp [hq] at hs
   | some l => simp [hq] at hs; simp [hs]
  rw [List.set_comm _ _ (by omega)]
  rw [set_self this]
 refine ⟨LF (.slice (some ⟨gr, 0, none⟩) L.length c) (bs.set i v2) none, fun _ => False, hchg.mono (fun x _ hx => .inl (by rw [hx]; exact hgr)), ⟨bs.set i v2, ⟨by simp [q1.len], ?_, fun m x l _ hx hl2 => ?_, fun m m2 x y z hx hy hxz hyz => ?_⟩, fun _ => Iff.rfl⟩, fun _ hf => hf, fun _ _ hf => hf, fun x hx => ?_, fun _ hf => hf.elim⟩
 ·rw [List.length_set, ← hset]
  simpa using h1
 ·have hne : ∀ (u : Value) (ds : List Cell), OwnC w 0 u ds → ∀ y, u.ownBlock = some y → ¬ y = gr := fun u ds ho y hy e => own_apart (by decide) q1.own ho rfl (by rw [← e]; exact hy)
  by_cases hm : i = m
  ·subst hm
   rw [List.getElem?_set_self (by rw [q1.len]; exact hi)] at hx
   rw [List.getElem?_set_self hi] at hl2
   cases hx; cases hl2
   exact own_chg hG.1 hchg (hne _ _ hG.1)
  ·rw [List.getElem?_set_ne hm] at hx hl2
   have ho := q1.rows m x l (by simpa using hm) hx hl2
   exact own_chg ho hchg (hne _ _ ho)
 ·by_cases hm : i = m
  ·subst hm
   rw [List.getElem?_set_self (by rw [q1.len]; exact hi)] at hx
   cases hx
   by_cases hm2 : i = m2
   ·exact hm2
   ·rw [List.getElem?_set_ne hm2] at hy
    exact (hd z ((q3 z).2 (.inr ⟨m2, y, by simpa using hm2, hy, hyz⟩)) ((hG.2 z).2 hxz)).elim
  ·rw [List.getElem?_set_ne hm] at hx
   by_cases hm2 : i = m2
   ·subst hm2
    rw [List.getElem?_set_self (by rw [q1.len]; exact hi)] at hy
    cases hy
    exact (hd z ((q3 z).2 (.inr ⟨m, x, by simpa using hm, hx, hxz⟩)) ((hG.2 z).2 hyz)).elim
   ·rw [List.getElem?_set_ne hm2] at hy
    exact q1.dist m m2 x y z hx hy hxz hyz
 ·rcases hx with hx | ⟨m, y, _, hy, hyx⟩
  ·exact .inl ((q3 x).2 (.inl hx))
  ·by_cases hm : i = m
   ·subst hm
    rw [List.getElem?_set_self (by rw [q1.len]; exact hi)] at hy
    cases hy
    exact .inr (.inl ((hG.2 x).2 hyx))
   ·rw [List.getElem?_set_ne hm] at hy
    exact .inl ((q3 x).2 (.inr ⟨m, y, by simpa using hm, hy, hyx⟩))
theorem Objs.storeSoft {k i gr n c : Nat} {l : Ln} {s : Bool} (hS : Objs w0 w os) (hk : os[k]? = some (.lines (.slice (some ⟨gr, 0, none⟩) n c) L)) (hl : L[i]? = some l) :
  Objs w0 (w.setCell ⟨gr, i * 2 + 1, none⟩ (.bool s)) (os.set k (.lines (.slice (some ⟨gr, 0, none⟩) n c) (L.set i (l.1, s)))) := by
 refine hS.upd hk (fun F hF => ?_)
 obtain ⟨bs, q1, q3⟩ := hF
 obtain rfl : n = L.length := by obtain ⟨A', c', e, -⟩ := own_form q1.own; simp only [Value.slice.injEq] at e; exact e.2.1
 have hi : i < L.length := (List.getElem?_eq_some_iff.1 hl).1
 have hib : i < bs.length := by rw [q1.len]; exact hi
 have hchg : Chg (fun x => x = gr) w (w.setCell ⟨gr, i * 2 + 1, none⟩ (.bool s)) := chg_setCell w ⟨gr, i * 2 + 1, none⟩ (.bool s)
 obtain ⟨h1, h2⟩ := World.ownsRow.stored q1.own (i * 2 + 1) (.bool s)
 have hset : (hdrs bs L).set (i * 2 + 1) (.bool s) = hdrs bs (L.set i (l.1, s)) := by
  have hb : bs.set i bs[i] = bs := set_self (by simp [hib])
  have := hdrs_set0 q1.len hi bs[i] (l.1, s)
  rw [hb] at this
  rw [this, set_self (l := hdrs bs L) (k := i * 2) (by rw [hdrs_at0 q1.len]; simp [hib])]
 refine ⟨F, hchg.mono (fun x _ hx => (q3 x).2 (.inl (by rw [hx]; rfl))), ⟨bs, ⟨by simp [q1.len], ?_, fun m x y _ hx hy => ?_, q1.dist⟩, q3⟩, fun b hb => .inl hb⟩
 ·rw [List.length_set, ← hset]
  simpa using h1
 ·have hne : ∀ (u : Value) (ds : List Cell), OwnC w 0 u ds → ∀ y, u.ownBlock = some y → ¬ y = gr := fun u ds ho y hy e => own_apart (by decide) q1.own ho rfl (by rw [← e]; exact hy)
  by_cases hm : i = m
  ·subst hm
   rw [List.getElem?_set_self hi] at hy
   cases hy
   have ho := q1.rows i x l (by simp) hx hl
   exact own_chg ho hchg (hne _ _ ho)
  ·rw [List.getElem?_set_ne hm] at hy
   have ho := q1.rows m x y (by simp) hx hy
   exact own_chg ho hchg (hne _ _ ho)
end
end Go.Proofs.YtdndoikgnohkkaaDoor

namespace Go.Proofs.YtdndoikgnohkkaaDoor
open Go.RowKit

section
variable {w0 w : World} {os : List Ob}
theorem Objs.linesRd' (h : Objs w0 w os) {A : Option Addr} {n c k : Nat} {L : List Ln} (hk : os[k]? = some (.lines (.slice A n c) L)) : n = L.length ∧ c ≤ maxLen ∧ RdL w A c L := by
 obtain ⟨A', c', e, h1, h2⟩ := h.linesRd hk
 simp only [Value.slice.injEq] at e
 obtain ⟨rfl, e2, rfl⟩ := e
 exact ⟨e2, h1, h2⟩
theorem Objs.lowerNew {x o o' : Ob} {k : Nat} (hk : os[k]? = some o) (h : Objs w0 w (x :: o' :: os.set k .none)) : Objs w0 w (x :: os.set k o') := by
 have h1 := h.move (i := 1) (j := k + 2) (o := o') rfl (by simpa using set_none_get hk) (by omega)
 have h2 := h1.del 1
 simpa [List.set_set] using h2
theorem front_new {P : Program} {f : FuncId} {args : Array Value} {k : Nat} {o o' : Ob} {r : Value → Value} {nw : Value → Ob} (hS : Objs w0 w os) (hk : os[k]? = some o)
  (hc : ∀ os1, Objs w0 w (o :: os1) → Calls P f args w fun e w' => ∃ v, e = .returned (r v) ∧ Objs w0 w' (nw v :: o' :: os1)) : Calls P f args w fun e w' => ∃ v, e = .returned (r v) ∧ Objs w0 w' (nw v :: os.set k o') :=
 (hc _ (hS.lift hk)).mono fun e w' ⟨v, h1, h2⟩ => ⟨v, h1, h2.lowerNew hk⟩
end
section
variable {ops : Array Oper} {rest : List Oper} {o : Oper} {a : Act} {w : World} {Q : Exit → Act → World → Prop}
theorem wpList_bsl (hw : Region.wanted o (yielded ops a.tmps) = true) (x0 : Operand) (ho : o.op = .buildSlice 64 1 #[(0, x0)]) {v : Value} {s : Bool} (h0 : a.eval x0 = .agg #[v, .bool s])
  (h : wpList Tryd.prog ops Q rest (a.put o.dst (.slice (some ⟨w.heap.size, 0, none⟩) 1 1)) (w.alloc (.cells #[v, .bool s] 86))) : wpList Tryd.prog ops Q (o :: rest) a w :=
 wpList_run hw (exec_bsl ho (by simp [h0]) (run_bsl v s w)) h
end
section
variable {w0 w : World} {os : List Ob} {p cols : Nat} {L : List Ln}
set_option maxRecDepth 100000 in
set_option maxHeartbeats 2000000 in
theorem Lines_front (hS : Objs w0 w (.grid p 83 cols L :: os)) (hc : 0 < cols) (hn : ∀ l ∈ L, l.1.length ≤ 1000000) (hL : L.length ≤ 1000000) :
  Calls Tryd.prog 40 #[.pointer (some ⟨p, 0, none⟩)] w fun e w' => ∃ v, e = .returned v ∧ Objs w0 w' (.lines v L :: .grid p 83 cols L :: os) := by
 have S := Lib.hid hS
 have HN := Lib.hid hn
 clear hS hn
 go_enter Tryd.func40, Tryd.ntmps40
 go_wp2_with fail
 refine (none_no S.out (k := 0) rfl hc).mono ?_
 rintro e w1 ⟨rfl, hS⟩
 obtain ⟨vG, hS1⟩ := hS.openGrid (k := 0) rfl
 obtain ⟨A, c, rfl, hcm, -⟩ := hS1.linesRd (k := 0) rfl
 obtain ⟨hx0, hf0, hz0⟩ := (hS1.box (k := 1) rfl).facts
 have S1 := Lib.hid hS1
 clear hS hS1 S hcm
 go_wp2_with fail
 go_loopw [3, 5, 13] (fun v _ x wr => ∃ n : Nat, n ≤ L.length ∧ x = .int .i64 n ∧ Objs w0 wr (.lines v (L.take n) :: .lines (.slice A L.length c) L :: .box p 83 #[.int .i64 cols, .slice A L.length c] :: os)) (fun _ _ x _ => L.length - (intOf x).toNat)
 case atStart => exact ⟨0, Nat.zero_le _, rfl, S1.out.nilLines⟩
 case round =>
  obtain ⟨n, hnl, rfl, hS⟩ := hrel
  by_cases hlt : n < L.length
  ·have hl : L[n]? = some L[n] := by simp [hlt]
   obtain ⟨b, off, A', c', rfl, hz1, hc1, hc2, hrd⟩ := (hS.linesRd' (k := 1) rfl).2.2.at_ hl
   have HRD := Lib.hid hrd
   have S2 := Lib.hid hS
   have HL := Lib.hid hl
   clear hrd hS hl
   go_wp2_with fail
   refine (lineCopy_any A' c' L[n].1 L[n].2 _ (HRD.out.alloc _) (HN.out _ (List.getElem_mem hlt))).mono ?_
   rintro e w2 ⟨v2, rfl, ho, hb⟩
   have hS3 := (S2.out.alloc1.newCells hb ho).alloc1 (c1 := #[v2, .bool L[n].2]) (t1 := 86)
   obtain ⟨v5, w5, hr5, hS5, A5, c5, hv5⟩ := run_appL hS3 (k := 3) (j := 1) (ad := ⟨w2.heap.size, 0, none⟩) (c := 1) (s := L[n].2) rfl rfl (by decide) (by rw [(hS3.box (k := 0) rfl).cell]; rfl) (by rw [add_at, (hS3.box (k := 0) rfl).cell]; rfl) (by simp; omega) 64
   have htk : L.take n ++ [(L[n].1, L[n].2)] = L.take (n + 1) := by rw [List.take_succ_eq_append_getElem hlt]
   rw [htk] at hS5
   have S5 := Lib.hid (((hS5.del 0).del 0).del 0)
   have HV := Lib.hid hv5
   clear hS3 hS5 htk hv5 ho hb hz1 hc1 hc2
   go_wp2_with (first | (refine wpList_bsl (wanted_none rfl) _ rfl (v := v2) (s := L[n].2) rfl ?_) | (at_builtin; refine wpList_app _ _ (wanted_none rfl) rfl rfl rfl hr5 ?_))
   go_roundw
   case rel => exact ⟨n + 1, by omega, by go_num, S5.out⟩
   case measure => simp [intOf]; omega
  ·have hnn : L.take n = L := List.take_of_length_le (by omega)
   rw [hnn] at hS
   have S6 := Lib.hid (((hS.lift (k := 1) rfl).closeGrid (k := 2) rfl).del 1)
   clear hS hnn
   go_wp2_with fail
   go_ret
   exact ⟨_, rfl, S6.out⟩
theorem Lines_any {k : Nat} (hS : Objs w0 w os) (hk : os[k]? = some (.grid p 83 cols L)) (hc : 0 < cols) (hn : ∀ l ∈ L, l.1.length ≤ 1000000) (hL : L.length ≤ 1000000) :
  Calls Tryd.prog 40 #[.pointer (some ⟨p, 0, none⟩)] w fun e w' => ∃ v, e = .returned v ∧ Objs w0 w' (.lines v L :: os) :=
 (front_new (r := id) (nw := fun v => .lines v L) (o' := .grid p 83 cols L) hS hk (fun os1 h => Lines_front h hc hn hL)).mono fun e w' ⟨v, h1, h2⟩ => ⟨v, h1, by rw [set_self hk] at h2; exact h2⟩
end
end Go.Proofs.YtdndoikgnohkkaaDoor

namespace Go.Proofs.YtdndoikgnohkkaaDoor
open Go.RowKit

def lineV : Value → Value
 | .agg a => a.getD 0 undef
 | v => v
def blkOf : Value → Nat
 | .slice (some ad) _ _ => ad.block
 | .pointer (some ad) => ad.block
 | _ => 0
set_option maxRecDepth 100000 in
set_option maxHeartbeats 4000000 in
theorem gridNew_yes (rows cols : Nat) (h1 : 1 ≤ rows) (h2 : rows ≤ 1000) (h3 : 1 ≤ cols) (h4 : cols ≤ 1000) (w0 w : World) (os : List Ob) (hS : Objs w0 w os) :
  Calls Tryd.prog 8 #[.int .i64 rows, .int .i64 cols] w fun e w' => ∃ p, e = .returned (.tuple #[.pointer (some ⟨p, 0, none⟩), .int .i64 0]) ∧ Objs w0 w' (.grid p 83 cols (List.replicate rows ((List.replicate cols (blank pen0)), false)) :: os) := by
 have S0 := Lib.hid hS
 clear hS
 go_enter Tryd.func8, Tryd.ntmps8
 go_wp2_with fail
 refine at_objsC S0.out.alloc1 (fun W S1 => ?_)
 generalize w.heap.size = p at S1 ⊢
 have S1 := Lib.hid S1
 clear S0
 go_loopw [25] (fun x wr => ∃ (k : Nat) (v : Value), k ≤ rows ∧ x = .int .i64 k ∧ Objs w0 wr (.lines v (List.replicate k ((List.replicate cols (blank pen0)), false)) :: .box p 83 #[.int .i64 ↑cols, v] :: os)) (fun x _ => rows - (intOf x).toNat)
 case atStart => exact ⟨0, _, Nat.zero_le _, rfl, S1.out.nilLines⟩
 case round =>
  obtain ⟨k, v, hk, rfl, hS⟩ := hrel
  have S := Lib.hid hS
  clear hS
  by_cases hlt : k < rows
  ·go_upto_region 6 with (fail)
   refine wp_region_stage (w0 := w0) (os := os) (by kernel_rfl) (by kernel_rfl) (by kernel_rfl) [(0, 7, [7], fun vs => .cells (lineV (vs 7)) (List.replicate cols (blank pen0))), (1, 8, [7, 8], fun vs => .box (blkOf (vs 8)) 86 #[lineV (vs 7), .bool false]), (2, 9, [9], fun vs => .lines (vs 9) (List.replicate (k + 1) ((List.replicate cols (blank pen0)), false))), (0, 9, [], fun vs => .none), (3, 12, [9], fun vs => .box p 83 #[.int .i64 ↑cols, vs 9])] [[], [], [], [], [3], [], [], [0], [1], [0, 1, 2], [], [], [3]] [.none, .none, .lines v (List.replicate k ((List.replicate cols (blank pen0)), false)), .box p 83 #[.int .i64 ↑cols, v]] (fun i u => match i with | 0 => u = .pointer (some ⟨p, 0, none⟩) | 1 => u = .pointer (some ⟨p, 0, none⟩) | 2 => u = .pointer (some ⟨p, 0, none⟩) | 3 => u = .pointer (some ⟨p, 1, none⟩) | 4 => u = (v : Value) | 5 => u = .int .i64 ↑cols | 6 => u = .agg (pv pen0) | 7 => ∃ x, u = .agg #[x, .bool false] | 8 => ∃ g, u = .slice (some ⟨g, 0, none⟩) 1 1 | 9 => ∃ A n c, u = .slice A n c | 10 => u = .pointer (some ⟨p, 0, none⟩) | 11 => u = .pointer (some ⟨p, 1, none⟩) | 12 => True | _ => True) (fun vs => [.none, .box (blkOf (vs 8)) 86 #[lineV (vs 7), .bool false], .lines (vs 9) (List.replicate (k + 1) ((List.replicate cols (blank pen0)), false)), .box p 83 #[.int .i64 ↑cols, vs 9]]) (by kernel_rfl) (fun vs => by rfl) S.out.pad.pad ?_ ?_
   ·apply sc
    ·intro a w' vs σ hS hl hs hk
     have f6 : a.tmps[6]?.getD undef = .pointer (some ⟨p, 0, none⟩) := sof hk
     exact rp (pt p 0) (by simp [execOp, Act.eval, f6, go_sem]) hl hs hS
    apply sc
    ·intro a w' vs σ hS hl hs hk
     have f6 : a.tmps[6]?.getD undef = .pointer (some ⟨p, 0, none⟩) := sof hk
     exact rp (pt p 0) (by simp [execOp, Act.eval, f6, go_sem]) hl hs hS
    apply sc
    ·intro a w' vs σ hS hl hs hk
     have f28 : a.tmps[28]?.getD undef = .pointer (some ⟨p, 0, none⟩) := sf hk 1
     exact rp (pt p 0) (by simp [execOp, Act.eval, f28, go_sem]) hl hs hS
    apply sc
    ·intro a w' vs σ hS hl hs hk
     have f29 : a.tmps[29]?.getD undef = .pointer (some ⟨p, 0, none⟩) := sf hk 2
     exact rp (pt p 1) (by simp [execOp, Act.eval, f29, go_sem]) hl hs hS
    apply sc
    ·intro a w' vs σ hS hl hs hk
     have f30 : a.tmps[30]?.getD undef = .pointer (some ⟨p, 1, none⟩) := sf hk 3
     have hx := (hS.box (sg (hs 3 (by decide)))).cell
     exact rp v (by simp [execOp, Act.eval, f30, go_sem, hx]) hl hs hS
    apply sc
    ·intro a w' vs σ hS hl hs hk
     have f1 : a.tmps[1]?.getD undef = .int .i64 ↑cols := sof hk
     exact rp (.int .i64 ↑cols) (by simp [execOp, Act.eval, f1, go_sem]) hl hs hS
    apply sc
    ·intro a w' vs σ hS hl hs hk
     exact rp (.agg (pv pen0)) (by simp [execOp, Act.eval, go_sem, pen0]) hl hs hS
    apply sc
    ·intro a w' vs σ hS hl hs hk
     have e32 : a.tmps.getD 32 undef = .int .i64 ↑cols := svv hk 5
     have e33 : a.tmps.getD 33 undef = .agg (pv pen0) := svv hk 6
     have h0 : σ[0]? = some .none := hs 0 (by decide)
     exact ro_call (f := 33) (wanted_none rfl) rfl (by simp only [List.map_toArray, List.map_cons, List.map_nil, Act.eval, e32, e33] <;> rfl) (fun _ _ => by kernel_rfl) ((gridblanks_any cols (by omega) pen0 w0 w' _ hS).mono fun e w2 ⟨x, h1, h2⟩ => ⟨_, h1, sp_set 0 (.cells x (List.replicate cols (blank pen0))) (by kernel_rfl) (by simp) (by decide) hl hs (by rfl) (h2.place (sg h0)) ⟨x, rfl⟩, trivial⟩)
    apply sc
    ·intro a w' vs σ hS hl hs hk
     have e34 : a.tmps.getD 34 undef = vs 7 := sk_val hk 7 (by kernel_rfl) rfl rfl
     have p34 : (fun u : Value => ∃ x, u = .agg #[x, .bool false]) (vs 7) := (hk.1 7 (by kernel_rfl)).1
     obtain ⟨x, hx⟩ := p34
     have e9 := e34.trans hx
     have f9 := gd e9
     have h1 : σ[1]? = some .none := hs 1 (by decide)
     exact rs_run (wanted_none rfl) (exec_bsl rfl (by simp [Act.eval, e9, f9]) (run_bsl x false w')) (sp_set 1 (.box w'.heap.size 86 #[x, .bool false]) (by kernel_rfl) (by simp) (by decide) hl hs (by show Ob.box (blkOf (.slice (some ⟨w'.heap.size, 0, none⟩) 1 1)) 86 #[lineV (vs 7), .bool false] = _; rw [hx]; rfl) (hS.alloc1.place (sg h1)) ⟨_, rfl⟩)
    apply sc
    ·intro a w' vs σ hS hl hs hk
     have e31 : a.tmps.getD 31 undef = (v : Value) := svv hk 4
     have e35 : a.tmps.getD 35 undef = vs 8 := sk_val hk 8 (by kernel_rfl) rfl rfl
     have p35 : (fun u : Value => ∃ g, u = .slice (some ⟨g, 0, none⟩) 1 1) (vs 8) := (hk.1 8 (by kernel_rfl)).1
     have h2 : σ[2]? = some (.lines v (List.replicate k ((List.replicate cols (blank pen0)), false))) := hs 2 (by decide)
     have h0 : σ[0]? = some (.cells (lineV (vs 7)) (List.replicate cols (blank pen0))) := hs 0 (by decide)
     have h1 : σ[1]? = some (.box (blkOf (vs 8)) 86 #[lineV (vs 7), .bool false]) := hs 1 (by decide)
     obtain ⟨g8, hg8⟩ := p35
     rw [hg8, show blkOf (.slice (some ⟨g8, 0, none⟩) 1 1) = g8 from rfl] at h1
     obtain ⟨v9, w9, hr, hS2, A9, c9, hv9⟩ := run_appL hS (k := 2) (j := 0) (ad := ⟨g8, 0, none⟩) (c := 1) (s := false) (sg h2) (sg h0) (by decide) (by rw [(hS.box (sg h1)).cell]; rfl) (by rw [add_at, (hS.box (sg h1)).cell]; rfl) (by simp; omega) 64
     rw [← List.replicate_succ'] at hS2
     exact rs_run (wanted_none rfl) (exec_app rfl (by simp only [Act.eval]; exact e31) (by simp only [Act.eval]; exact e35.trans hg8) hr) (sp_set2 2 0 (.lines v9 (List.replicate (k + 1) ((List.replicate cols (blank pen0)), false))) .none (by decide) (by kernel_rfl) (by simp) (by simp) (by decide) (by decide) hl hs (by rfl) (by rfl) hS2 ⟨A9, _, c9, hv9⟩)
    apply sc
    ·intro a w' vs σ hS hl hs hk
     have f27 : a.tmps[27]?.getD undef = .pointer (some ⟨p, 0, none⟩) := sf hk 0
     exact rp (pt p 0) (by simp [execOp, Act.eval, f27, go_sem]) hl hs hS
    apply sc
    ·intro a w' vs σ hS hl hs hk
     have f37 : a.tmps[37]?.getD undef = .pointer (some ⟨p, 0, none⟩) := sf hk 10
     exact rp (pt p 1) (by simp [execOp, Act.eval, f37, go_sem]) hl hs hS
    apply sc
    ·intro a w' vs σ hS hl hs hk
     have f38 : a.tmps[38]?.getD undef = .pointer (some ⟨p, 1, none⟩) := sf hk 11
     have e36 : a.tmps.getD 36 undef = vs 9 := sk_val hk 9 (by kernel_rfl) rfl rfl
     have p36 : (fun u : Value => ∃ A n c, u = .slice A n c) (vs 9) := (hk.1 9 (by kernel_rfl)).1
     have f36 := gd e36
     have h3 : σ[3]? = some (.box p 83 #[.int .i64 ↑cols, v]) := hs 3 (by decide)
     obtain ⟨hx, hf, hz⟩ := (hS.box (sg h3)).facts
     obtain ⟨A9, n9, c9, q9⟩ := p36
     exact rstep_store (w2 := w'.setCell ⟨p, 1, none⟩ (.slice A9 n9 c9)) (wanted_none rfl) rfl (by simp [execOp, Act.eval, f38, e36, f36, q9, hx, hf, hz, go_sem]) (sp_set 3 (.box p 83 #[.int .i64 ↑cols, vs 9]) (by kernel_rfl) (by simp) (by decide) hl hs (by rfl) (by rw [q9]; exact hS.setBox 3 (sg h3)) trivial) trivial
    exact SSteps.nil
   ·intro vs w' hS hv
    have q0 : vs 0 = _ := hv 0 (by decide)
    have q1 : vs 1 = _ := hv 1 (by decide)
    have q2 : vs 2 = _ := hv 2 (by decide)
    have q3 : vs 3 = _ := hv 3 (by decide)
    have q4 : vs 4 = _ := hv 4 (by decide)
    have q5 : vs 5 = _ := hv 5 (by decide)
    have q6 : vs 6 = _ := hv 6 (by decide)
    have q10 : vs 10 = _ := hv 10 (by decide)
    have q11 : vs 11 = _ := hv 11 (by decide)
    have S2 := Lib.hid hS
    simp only [putL, Act.put, Nat.zero_add, Nat.reduceAdd, List.setIfInBounds_toArray, List.set_cons_succ, List.set_cons_zero, q0, q1, q2, q3, q4, q5, q6, q10, q11]
    clear hS hv q0 q1 q2 q3 q4 q5 q6 q10 q11
    go_wp2_with fail
    go_roundw
    case rel => exact ⟨k + 1, vs 9, by omega, by go_num, (S2.out.del 0).del 0⟩
    case measure => simp [intOf]; omega
  ·obtain rfl : k = rows := by omega
   have SG := Lib.hid (S.out.closeGrid (k := 0) rfl)
   clear S S1
   go_wp2_with fail
   go_ret2
   exact ⟨p, rfl, SG.out⟩
set_option maxRecDepth 100000 in
set_option maxHeartbeats 4000000 in
theorem r14New_any (rows cols : Nat) (h2 : rows ≤ 1000) (h4 : cols ≤ 1000) (w0 w : World) (os : List Ob) (hS : Objs w0 w os) :
  Calls Tryd.prog 52 #[.int .i64 rows, .int .i64 cols] w fun e w' => ∃ p, e = .returned (.pointer (some ⟨p, 0, none⟩)) ∧ Objs w0 w' (.grid p 106 cols (List.replicate rows ((List.replicate cols (blank pen0)), false)) :: os) := by
 have S0 := Lib.hid hS
 clear hS
 go_enter Tryd.func52, Tryd.ntmps52
 go_wp2_with fail
 refine at_objsC S0.out.alloc1 (fun W S1 => ?_)
 generalize w.heap.size = p at S1 ⊢
 have S1 := Lib.hid S1
 clear S0
 go_loopw [6] (fun x wr => ∃ (k : Nat) (v : Value), k ≤ rows ∧ x = .int .i64 k ∧ Objs w0 wr (.lines v (List.replicate k ((List.replicate cols (blank pen0)), false)) :: .box p 106 #[.int .i64 ↑cols, v] :: os)) (fun x _ => rows - (intOf x).toNat)
 case atStart => exact ⟨0, _, Nat.zero_le _, rfl, S1.out.nilLines⟩
 case round =>
  obtain ⟨k, v, hk, rfl, hS⟩ := hrel
  have S := Lib.hid hS
  clear hS
  by_cases hlt : k < rows
  ·go_upto_region 5 with (fail)
   refine wp_region_stage (w0 := w0) (os := os) (by kernel_rfl) (by kernel_rfl) (by kernel_rfl) [(0, 7, [7], fun vs => .cells (lineV (vs 7)) (List.replicate cols (blank pen0))), (1, 8, [7, 8], fun vs => .box (blkOf (vs 8)) 86 #[lineV (vs 7), .bool false]), (2, 9, [9], fun vs => .lines (vs 9) (List.replicate (k + 1) ((List.replicate cols (blank pen0)), false))), (0, 9, [], fun vs => .none), (3, 12, [9], fun vs => .box p 106 #[.int .i64 ↑cols, vs 9])] [[], [], [], [], [3], [], [], [0], [1], [0, 1, 2], [], [], [3]] [.none, .none, .lines v (List.replicate k ((List.replicate cols (blank pen0)), false)), .box p 106 #[.int .i64 ↑cols, v]] (fun i u => match i with | 0 => u = .pointer (some ⟨p, 0, none⟩) | 1 => u = .pointer (some ⟨p, 0, none⟩) | 2 => u = .pointer (some ⟨p, 0, none⟩) | 3 => u = .pointer (some ⟨p, 1, none⟩) | 4 => u = (v : Value) | 5 => u = .int .i64 ↑cols | 6 => u = .agg (pv pen0) | 7 => ∃ x, u = .agg #[x, .bool false] | 8 => ∃ g, u = .slice (some ⟨g, 0, none⟩) 1 1 | 9 => ∃ A n c, u = .slice A n c | 10 => u = .pointer (some ⟨p, 0, none⟩) | 11 => u = .pointer (some ⟨p, 1, none⟩) | 12 => True | _ => True) (fun vs => [.none, .box (blkOf (vs 8)) 86 #[lineV (vs 7), .bool false], .lines (vs 9) (List.replicate (k + 1) ((List.replicate cols (blank pen0)), false)), .box p 106 #[.int .i64 ↑cols, vs 9]]) (by kernel_rfl) (fun vs => by rfl) S.out.pad.pad ?_ ?_
   ·apply sc
    ·intro a w' vs σ hS hl hs hk
     have f5 : a.tmps[5]?.getD undef = .pointer (some ⟨p, 0, none⟩) := sof hk
     exact rp (pt p 0) (by simp [execOp, Act.eval, f5, go_sem]) hl hs hS
    apply sc
    ·intro a w' vs σ hS hl hs hk
     have f5 : a.tmps[5]?.getD undef = .pointer (some ⟨p, 0, none⟩) := sof hk
     exact rp (pt p 0) (by simp [execOp, Act.eval, f5, go_sem]) hl hs hS
    apply sc
    ·intro a w' vs σ hS hl hs hk
     have f16 : a.tmps[16]?.getD undef = .pointer (some ⟨p, 0, none⟩) := sf hk 1
     exact rp (pt p 0) (by simp [execOp, Act.eval, f16, go_sem]) hl hs hS
    apply sc
    ·intro a w' vs σ hS hl hs hk
     have f17 : a.tmps[17]?.getD undef = .pointer (some ⟨p, 0, none⟩) := sf hk 2
     exact rp (pt p 1) (by simp [execOp, Act.eval, f17, go_sem]) hl hs hS
    apply sc
    ·intro a w' vs σ hS hl hs hk
     have f18 : a.tmps[18]?.getD undef = .pointer (some ⟨p, 1, none⟩) := sf hk 3
     have hx := (hS.box (sg (hs 3 (by decide)))).cell
     exact rp v (by simp [execOp, Act.eval, f18, go_sem, hx]) hl hs hS
    apply sc
    ·intro a w' vs σ hS hl hs hk
     have f1 : a.tmps[1]?.getD undef = .int .i64 ↑cols := sof hk
     exact rp (.int .i64 ↑cols) (by simp [execOp, Act.eval, f1, go_sem]) hl hs hS
    apply sc
    ·intro a w' vs σ hS hl hs hk
     exact rp (.agg (pv pen0)) (by simp [execOp, Act.eval, go_sem, pen0]) hl hs hS
    apply sc
    ·intro a w' vs σ hS hl hs hk
     have e20 : a.tmps.getD 20 undef = .int .i64 ↑cols := svv hk 5
     have e21 : a.tmps.getD 21 undef = .agg (pv pen0) := svv hk 6
     have h0 : σ[0]? = some .none := hs 0 (by decide)
     exact ro_call (f := 59) (wanted_none rfl) rfl (by simp only [List.map_toArray, List.map_cons, List.map_nil, Act.eval, e20, e21] <;> rfl) (fun _ _ => by kernel_rfl) ((r14Blanks_any cols (by omega) pen0 w0 w' _ hS).mono fun e w2 ⟨x, h1, h2⟩ => ⟨_, h1, sp_set 0 (.cells x (List.replicate cols (blank pen0))) (by kernel_rfl) (by simp) (by decide) hl hs (by rfl) (h2.place (sg h0)) ⟨x, rfl⟩, trivial⟩)
    apply sc
    ·intro a w' vs σ hS hl hs hk
     have e22 : a.tmps.getD 22 undef = vs 7 := sk_val hk 7 (by kernel_rfl) rfl rfl
     have p22 : (fun u : Value => ∃ x, u = .agg #[x, .bool false]) (vs 7) := (hk.1 7 (by kernel_rfl)).1
     obtain ⟨x, hx⟩ := p22
     have e9 := e22.trans hx
     have f9 := gd e9
     have h1 : σ[1]? = some .none := hs 1 (by decide)
     exact rs_run (wanted_none rfl) (exec_bsl rfl (by simp [Act.eval, e9, f9]) (run_bsl x false w')) (sp_set 1 (.box w'.heap.size 86 #[x, .bool false]) (by kernel_rfl) (by simp) (by decide) hl hs (by show Ob.box (blkOf (.slice (some ⟨w'.heap.size, 0, none⟩) 1 1)) 86 #[lineV (vs 7), .bool false] = _; rw [hx]; rfl) (hS.alloc1.place (sg h1)) ⟨_, rfl⟩)
    apply sc
    ·intro a w' vs σ hS hl hs hk
     have e19 : a.tmps.getD 19 undef = (v : Value) := svv hk 4
     have e23 : a.tmps.getD 23 undef = vs 8 := sk_val hk 8 (by kernel_rfl) rfl rfl
     have p23 : (fun u : Value => ∃ g, u = .slice (some ⟨g, 0, none⟩) 1 1) (vs 8) := (hk.1 8 (by kernel_rfl)).1
     have h2 : σ[2]? = some (.lines v (List.replicate k ((List.replicate cols (blank pen0)), false))) := hs 2 (by decide)
     have h0 : σ[0]? = some (.cells (lineV (vs 7)) (List.replicate cols (blank pen0))) := hs 0 (by decide)
     have h1 : σ[1]? = some (.box (blkOf (vs 8)) 86 #[lineV (vs 7), .bool false]) := hs 1 (by decide)
     obtain ⟨g8, hg8⟩ := p23
     rw [hg8, show blkOf (.slice (some ⟨g8, 0, none⟩) 1 1) = g8 from rfl] at h1
     obtain ⟨v9, w9, hr, hS2, A9, c9, hv9⟩ := run_appL hS (k := 2) (j := 0) (ad := ⟨g8, 0, none⟩) (c := 1) (s := false) (sg h2) (sg h0) (by decide) (by rw [(hS.box (sg h1)).cell]; rfl) (by rw [add_at, (hS.box (sg h1)).cell]; rfl) (by simp; omega) 64
     rw [← List.replicate_succ'] at hS2
     exact rs_run (wanted_none rfl) (exec_app rfl (by simp only [Act.eval]; exact e19) (by simp only [Act.eval]; exact e23.trans hg8) hr) (sp_set2 2 0 (.lines v9 (List.replicate (k + 1) ((List.replicate cols (blank pen0)), false))) .none (by decide) (by kernel_rfl) (by simp) (by simp) (by decide) (by decide) hl hs (by rfl) (by rfl) hS2 ⟨A9, _, c9, hv9⟩)
    apply sc
    ·intro a w' vs σ hS hl hs hk
     have f15 : a.tmps[15]?.getD undef = .pointer (some ⟨p, 0, none⟩) := sf hk 0
     exact rp (pt p 0) (by simp [execOp, Act.eval, f15, go_sem]) hl hs hS
    apply sc
    ·intro a w' vs σ hS hl hs hk
     have f25 : a.tmps[25]?.getD undef = .pointer (some ⟨p, 0, none⟩) := sf hk 10
     exact rp (pt p 1) (by simp [execOp, Act.eval, f25, go_sem]) hl hs hS
    apply sc
    ·intro a w' vs σ hS hl hs hk
     have f26 : a.tmps[26]?.getD undef = .pointer (some ⟨p, 1, none⟩) := sf hk 11
     have e24 : a.tmps.getD 24 undef = vs 9 := sk_val hk 9 (by kernel_rfl) rfl rfl
     have p24 : (fun u : Value => ∃ A n c, u = .slice A n c) (vs 9) := (hk.1 9 (by kernel_rfl)).1
     have f24 := gd e24
     have h3 : σ[3]? = some (.box p 106 #[.int .i64 ↑cols, v]) := hs 3 (by decide)
     obtain ⟨hx, hf, hz⟩ := (hS.box (sg h3)).facts
     obtain ⟨A9, n9, c9, q9⟩ := p24
     exact rstep_store (w2 := w'.setCell ⟨p, 1, none⟩ (.slice A9 n9 c9)) (wanted_none rfl) rfl (by simp [execOp, Act.eval, f26, e24, f24, q9, hx, hf, hz, go_sem]) (sp_set 3 (.box p 106 #[.int .i64 ↑cols, vs 9]) (by kernel_rfl) (by simp) (by decide) hl hs (by rfl) (by rw [q9]; exact hS.setBox 3 (sg h3)) trivial) trivial
    exact SSteps.nil
   ·intro vs w' hS hv
    have q0 : vs 0 = _ := hv 0 (by decide)
    have q1 : vs 1 = _ := hv 1 (by decide)
    have q2 : vs 2 = _ := hv 2 (by decide)
    have q3 : vs 3 = _ := hv 3 (by decide)
    have q4 : vs 4 = _ := hv 4 (by decide)
    have q5 : vs 5 = _ := hv 5 (by decide)
    have q6 : vs 6 = _ := hv 6 (by decide)
    have q10 : vs 10 = _ := hv 10 (by decide)
    have q11 : vs 11 = _ := hv 11 (by decide)
    have S2 := Lib.hid hS
    simp only [putL, Act.put, Nat.zero_add, Nat.reduceAdd, List.setIfInBounds_toArray, List.set_cons_succ, List.set_cons_zero, q0, q1, q2, q3, q4, q5, q6, q10, q11]
    clear hS hv q0 q1 q2 q3 q4 q5 q6 q10 q11
    go_wp2_with fail
    go_roundw
    case rel => exact ⟨k + 1, vs 9, by omega, by go_num, (S2.out.del 0).del 0⟩
    case measure => simp [intOf]; omega
  ·obtain rfl : k = rows := by omega
   have SG := Lib.hid (S.out.closeGrid (k := 0) rfl)
   clear S S1
   go_wp2_with fail
   go_ret
   exact ⟨p, rfl, SG.out⟩
theorem gridNew_no (rows cols : Int) (h : rows < 1 ∨ 1000 < rows ∨ cols < 1 ∨ 1000 < cols) (w : World) : Calls Tryd.prog 8 #[.int .i64 rows, .int .i64 cols] w fun e w' => e = .returned (.tuple #[.pointer none, .int .i64 2]) ∧ w = w' := by
 have h' : rows < 1 ∨ (1 ≤ rows ∧ 1000 < rows) ∨ ((1 ≤ rows ∧ rows ≤ 1000) ∧ cols < 1) ∨ ((1 ≤ rows ∧ rows ≤ 1000) ∧ 1 ≤ cols ∧ 1000 < cols) := by omega
 clear h
 rcases h' with h | ⟨h, h2⟩ | ⟨⟨h, h2⟩, h3⟩ | ⟨⟨h, h2⟩, h3, h4⟩
 all_goals
  go_enter Tryd.func8, Tryd.ntmps8
  go_wp2_with fail
  go_ret2
  exact ⟨rfl, rfl⟩
end Go.Proofs.YtdndoikgnohkkaaDoor

namespace Go.Proofs.YtdndoikgnohkkaaDoor
open Go.RowKit

end Go.Proofs.YtdndoikgnohkkaaDoor

namespace Go.Proofs.YtdndoikgnohkkaaDoor
open Go.RowKit

end Go.Proofs.YtdndoikgnohkkaaDoor

namespace Go.Proofs.YtdndoikgnohkkaaDoor
open Go.RowKit

def manyP (Q : List Ob → Prop) (w : World) (F : Nat → Prop) : Prop := ∃ (xs : List Ob) (G : Nat → Nat → Prop), Q xs ∧ (∀ (i : Nat) (o : Ob), xs[i]? = some o → o.at w (G i)) ∧ (∀ i, xs.length ≤ i → ∀ b, ¬ G i b) ∧ (∀ i j b, G i b → G j b → i = j) ∧ ∀ b, F b ↔ ∃ i, G i b
def many (Q : List Ob → Prop) : GenOb where
 P := manyP Q
 chg := fun {S F w w'} h hc hS => by
  obtain ⟨xs, G, h1, h2, h3, h4, h5⟩ := h
  exact ⟨xs, G, h1, fun i o ho => (h2 i o ho).chg hc (fun b hb => hS b ((h5 b).2 ⟨i, hb⟩)), h3, h4, h5⟩
 lt := fun {F w b} h hb => by
  obtain ⟨xs, G, h1, h2, h3, h4, h5⟩ := h
  obtain ⟨i, hi⟩ := (h5 b).1 hb
  rcases Nat.lt_or_ge i xs.length with hl | hl
  ·exact (h2 i xs[i] (by simp [hl])).lt hi
  ·exact (h3 i hl b hi).elim
theorem Objs.pack {Q : List Ob → Prop} {xs os : List Ob} {w0 w : World} (h : Objs w0 w (xs ++ os)) (hQ : Q xs) : Objs w0 w (.gen (many Q) :: os) := by
 obtain ⟨h1, F, a1, a2, a3, a4⟩ := h
 refine ⟨h1, fun i b => match i with | 0 => ∃ k, k < xs.length ∧ F k b | i + 1 => F (xs.length + i) b, fun i o hi => ?_, fun i b hF => ?_, fun i hi b hF => ?_, fun i j b hi hj => ?_⟩
 ·cases i with
  | zero =>
   simp at hi
   subst hi
   refine ⟨xs, fun k b => k < xs.length ∧ F k b, hQ, fun k o ho => ?_, fun k hk b hb => by omega, fun k j b hk hj => a4 k j b hk.2 hj.2, fun b => Iff.rfl⟩
   have hk := (List.getElem?_eq_some_iff.1 ho).1
   have := a1 k o (by rw [List.getElem?_append_left hk]; exact ho)
   have he : (fun b => k < xs.length ∧ F k b) = F k := by
    funext b
    exact propext ⟨fun h => h.2, fun h => ⟨hk, h⟩⟩
   show Ob.at w (fun b => k < xs.length ∧ F k b) o
   rw [he]
   exact this
  | succ i => exact a1 (xs.length + i) o (by rw [List.getElem?_append_right (by omega)]; simpa using hi)
 ·cases i with
  | zero => obtain ⟨k, _, hk⟩ := hF; exact a2 k b hk
  | succ i => exact a2 _ b hF
 ·cases i with
  | zero => simp at hi
  | succ i => exact a3 (xs.length + i) (by simp at hi ⊢; omega) b hF
 ·cases i with
  | zero =>
   obtain ⟨k, hk, hk2⟩ := hi
   cases j with
   | zero => rfl
   | succ j => have := a4 _ _ b hk2 hj; omega
  | succ i =>
   cases j with
   | zero => obtain ⟨k, hk, hk2⟩ := hj; have := a4 _ _ b hk2 hi; omega
   | succ j => have := a4 _ _ b hi hj; omega
theorem Objs.unpack {Q : List Ob → Prop} {os : List Ob} {w0 w : World} (h : Objs w0 w (.gen (many Q) :: os)) : ∃ xs, Q xs ∧ Objs w0 w (xs ++ os) := by
 obtain ⟨h1, F, a1, a2, a3, a4⟩ := h
 obtain ⟨xs, G, b1, b2, b3, b4, b5⟩ := a1 0 _ rfl
 refine ⟨xs, b1, h1, fun i b => (i < xs.length ∧ G i b) ∨ (xs.length ≤ i ∧ F (i - xs.length + 1) b), fun i o hi => ?_, fun i b hF => ?_, fun i hi b hF => ?_, fun i j b hi hj => ?_⟩
 ·by_cases hl : i < xs.length
  ·rw [List.getElem?_append_left hl] at hi
   have hF : (fun b => (i < xs.length ∧ G i b) ∨ (xs.length ≤ i ∧ F (i - xs.length + 1) b)) = G i := by
    funext b
    exact propext ⟨fun h => h.elim (fun h => h.2) (fun h => by omega), fun h => .inl ⟨hl, h⟩⟩
   show Ob.at w (fun b => (i < xs.length ∧ G i b) ∨ (xs.length ≤ i ∧ F (i - xs.length + 1) b)) o
   rw [hF]
   exact b2 i o hi
  ·rw [List.getElem?_append_right (by omega)] at hi
   have hF : (fun b => (i < xs.length ∧ G i b) ∨ (xs.length ≤ i ∧ F (i - xs.length + 1) b)) = F (i - xs.length + 1) := by
    funext b
    exact propext ⟨fun h => h.elim (fun h => by omega) (fun h => h.2), fun h => .inr ⟨by omega, h⟩⟩
   show Ob.at w (fun b => (i < xs.length ∧ G i b) ∨ (xs.length ≤ i ∧ F (i - xs.length + 1) b)) o
   rw [hF]
   exact a1 _ o (by simpa using hi)
 ·rcases hF with ⟨_, h⟩ | ⟨_, h⟩
  ·exact a2 0 b ((b5 b).2 ⟨i, h⟩)
  ·exact a2 _ b h
 ·rcases hF with ⟨h, _⟩ | ⟨_, h⟩
  ·simp at hi; omega
  ·exact a3 _ (by simp at hi ⊢; omega) b h
 ·rcases hi with ⟨p1, p2⟩ | ⟨p1, p2⟩ <;> rcases hj with ⟨r1, r2⟩ | ⟨r1, r2⟩
  ·exact b4 i j b p2 r2
  ·have := a4 0 _ b ((b5 b).2 ⟨i, p2⟩) r2; omega
  ·have := a4 0 _ b ((b5 b).2 ⟨j, r2⟩) p2; omega
  ·have := a4 _ _ b p2 r2; omega
end Go.Proofs.YtdndoikgnohkkaaDoor

namespace Go.Proofs.YtdndoikgnohkkaaDoor
open Go.RowKit

def chOk (a b c : Int) : Bool := decide (0 ≤ a ∧ a < 2) && decide (0 ≤ b ∧ b < 2) && decide (c = 0 ∨ c = 1)
def Saved.ok (s : Saved) : Bool := decide (0 ≤ s.row ∧ s.row < 1000) && decide (0 ≤ s.col ∧ s.col < 1000) && s.q.ok && chOk s.s0 s.s1 s.act
def mode24 (n : Int) : Bool := decide (n = 47 ∨ n = 1047 ∨ n = 1049)
theorem chKnown_any (n : Int) (w : World) : Calls Tryd.prog 83 #[.int .i64 n] w fun e w' => e = .returned (.bool (decide (0 ≤ n ∧ n < 2))) ∧ w = w' := by
 have h : n < 0 ∨ (0 ≤ n ∧ n < 2) ∨ (0 ≤ n ∧ 2 ≤ n) := by omega
 rcases h with h | ⟨h, h2⟩ | ⟨h, h2⟩
 ·rw [show decide (0 ≤ n ∧ n < 2) = false from decide_eq_false (by omega)]
  go_enter Tryd.func83, Tryd.ntmps83
  go_wp2_with fail
  go_ret
  exact ⟨rfl, rfl⟩
 ·rw [show decide (0 ≤ n ∧ n < 2) = true from decide_eq_true (by omega)]
  go_enter Tryd.func83, Tryd.ntmps83
  go_wp2_with fail
  go_ret
  exact ⟨rfl, rfl⟩
 ·rw [show decide (0 ≤ n ∧ n < 2) = false from decide_eq_false (by omega)]
  have h3 : ¬ n < 2 := by omega
  go_enter Tryd.func83, Tryd.ntmps83
  go_wp2_with fail
  go_ret
  exact ⟨rfl, rfl⟩
theorem chKnown_is {n : Int} {b : Bool} (h : decide (0 ≤ n ∧ n < 2) = b) (w : World) : Calls Tryd.prog 83 #[.int .i64 n] w fun e w' => e = .returned (.bool b) ∧ w = w' := h ▸ chKnown_any n w
set_option maxHeartbeats 1000000 in
theorem charsetValid_any (a b c : Int) (w : World) : Calls Tryd.prog 65 #[.agg #[.int .i64 a, .int .i64 b, .int .i64 c]] w fun e w' => e = .returned (.bool (chOk a b c)) ∧ Below w.heap.size w w' := by
 cases ha : decide (0 ≤ a ∧ a < 2) with
 | false =>
  rw [show chOk a b c = false by unfold chOk; rw [ha]; rfl]
  go_enter Tryd.func65, Tryd.ntmps65
  go_wp2_with fail
  refine (chKnown_is ha _).mono ?_
  rintro e w1 ⟨rfl, rfl⟩
  go_wp2_with fail
  go_ret
  exact ⟨rfl, (Below.refl _ _).alloc (Nat.le_refl _) _⟩
 | true =>
  cases hb : decide (0 ≤ b ∧ b < 2) with
  | false =>
   rw [show chOk a b c = false by unfold chOk; rw [ha, hb]; rfl]
   go_enter Tryd.func65, Tryd.ntmps65
   go_wp2_with fail
   refine (chKnown_is ha _).mono ?_
   rintro e w1 ⟨rfl, rfl⟩
   go_wp2_with fail
   refine (chKnown_is hb _).mono ?_
   rintro e w1 ⟨rfl, rfl⟩
   go_wp2_with fail
   go_ret
   exact ⟨rfl, (Below.refl _ _).alloc (Nat.le_refl _) _⟩
  | true =>
   have hcc : c = 0 ∨ (¬ c = 0 ∧ c = 1) ∨ (¬ c = 0 ∧ ¬ c = 1) := by omega
   rcases hcc with h | ⟨h, h2⟩ | ⟨h, h2⟩
   ·rw [show chOk a b c = true by unfold chOk; rw [ha, hb]; simp [h]]
    have h0 := beq_yes h
    clear h
    go_enter Tryd.func65, Tryd.ntmps65
    go_wp2_with fail
    refine (chKnown_is ha _).mono ?_
    rintro e w1 ⟨rfl, rfl⟩
    go_wp2_with fail
    refine (chKnown_is hb _).mono ?_
    rintro e w1 ⟨rfl, rfl⟩
    go_wp2_with fail
    go_ret
    exact ⟨rfl, (Below.refl _ _).alloc (Nat.le_refl _) _⟩
   ·rw [show chOk a b c = true by unfold chOk; rw [ha, hb]; simp [h2]]
    have h0 := beq_no h
    have h1 := beq_yes h2
    clear h h2
    go_enter Tryd.func65, Tryd.ntmps65
    go_wp2_with fail
    refine (chKnown_is ha _).mono ?_
    rintro e w1 ⟨rfl, rfl⟩
    go_wp2_with fail
    refine (chKnown_is hb _).mono ?_
    rintro e w1 ⟨rfl, rfl⟩
    go_wp2_with fail
    go_ret
    exact ⟨rfl, (Below.refl _ _).alloc (Nat.le_refl _) _⟩
   ·rw [show chOk a b c = false by unfold chOk; rw [ha, hb]; simp [h, h2]]
    have h0 := beq_no h
    have h1 := beq_no h2
    clear h h2
    go_enter Tryd.func65, Tryd.ntmps65
    go_wp2_with fail
    refine (chKnown_is ha _).mono ?_
    rintro e w1 ⟨rfl, rfl⟩
    go_wp2_with fail
    refine (chKnown_is hb _).mono ?_
    rintro e w1 ⟨rfl, rfl⟩
    go_wp2_with fail
    go_ret
    exact ⟨rfl, (Below.refl _ _).alloc (Nat.le_refl _) _⟩
theorem mode_cases (n : Int) : (n = 47 ∧ mode24 n = true) ∨ (¬ n = 47 ∧ n = 1047 ∧ mode24 n = true) ∨ (¬ n = 47 ∧ ¬ n = 1047 ∧ n = 1049 ∧ mode24 n = true) ∨ (¬ n = 47 ∧ ¬ n = 1047 ∧ ¬ n = 1049 ∧ mode24 n = false) := by
 unfold mode24
 by_cases h1 : n = 47
 ·exact .inl ⟨h1, by simp [h1]⟩
 by_cases h2 : n = 1047
 ·exact .inr (.inl ⟨h1, h2, by simp [h2]⟩)
 by_cases h3 : n = 1049
 ·exact .inr (.inr (.inl ⟨h1, h2, h3, by simp [h3]⟩))
 ·exact .inr (.inr (.inr ⟨h1, h2, h3, by simp [h1, h2, h3]⟩))
theorem altKnown_any (n : Int) (w : World) : Calls Tryd.prog 35 #[.int .i64 n] w fun e w' => e = .returned (.bool (mode24 n)) ∧ w = w' := by
 rcases mode_cases n with ⟨h1, hm⟩ | ⟨h1, h2, hm⟩ | ⟨h1, h2, h3, hm⟩ | ⟨h1, h2, h3, hm⟩
 case' inl => have b1 := beq_yes h1; clear h1
 case' inr.inl => have b1 := beq_no h1; have b2 := beq_yes h2; clear h1 h2
 case' inr.inr.inl => have b1 := beq_no h1; have b2 := beq_no h2; have b3 := beq_yes h3; clear h1 h2 h3
 case' inr.inr.inr => have b1 := beq_no h1; have b2 := beq_no h2; have b3 := beq_no h3; clear h1 h2 h3
 all_goals
  rw [hm]
  clear hm
  go_enter Tryd.func35, Tryd.ntmps35
  go_wp2_with fail
  go_ret
  exact ⟨rfl, rfl⟩
theorem l24mode_any (n : Int) (w : World) : Calls Tryd.prog 55 #[.int .i64 n] w fun e w' => e = .returned (.bool (mode24 n)) ∧ w = w' := by
 rcases mode_cases n with ⟨h1, hm⟩ | ⟨h1, h2, hm⟩ | ⟨h1, h2, h3, hm⟩ | ⟨h1, h2, h3, hm⟩
 case' inl => have b1 := beq_yes h1; clear h1
 case' inr.inl => have b1 := beq_no h1; have b2 := beq_yes h2; clear h1 h2
 case' inr.inr.inl => have b1 := beq_no h1; have b2 := beq_no h2; have b3 := beq_yes h3; clear h1 h2 h3
 case' inr.inr.inr => have b1 := beq_no h1; have b2 := beq_no h2; have b3 := beq_no h3; clear h1 h2 h3
 all_goals
  rw [hm]
  clear hm
  go_enter Tryd.func55, Tryd.ntmps55
  go_wp2_with fail
  go_ret
  exact ⟨rfl, rfl⟩
section
variable {w0 w : World} {os : List Ob}
theorem altInked_any (q : Pen) (hT : Tabs w0) (hS : Objs w0 w os) : Calls Tryd.prog 37 #[.agg (pv q)] w fun e w' => e = .returned (.bool q.ok) ∧ Objs w0 w' os := by
 have S := Lib.hid hS
 have HT := Lib.hid hT
 clear hS hT
 go_enter Tryd.func37, Tryd.ntmps37
 go_wp2_with fail
 refine (pure_call (cellBlank_any _ _) S.out.alloc1).mono ?_
 rintro e w1 ⟨rfl, hS⟩
 have S1 := Lib.hid hS
 clear hS
 go_wp2_with fail
 refine (pure_call (cellValid_any _ _ (S1.out.tabs HT.out)) S1.out).mono ?_
 rw [ok_blank]
 rintro e w2 ⟨rfl, hS⟩
 have S2 := Lib.hid hS
 clear hS
 go_wp2_with fail
 go_ret
 exact ⟨rfl, S2.out.tail⟩
theorem l24inked_any (q : Pen) (hT : Tabs w0) (hS : Objs w0 w os) : Calls Tryd.prog 56 #[.agg (pv q)] w fun e w' => e = .returned (.bool q.ok) ∧ Objs w0 w' os := by
 have S := Lib.hid hS
 have HT := Lib.hid hT
 clear hS hT
 go_enter Tryd.func56, Tryd.ntmps56
 go_wp2_with fail
 refine (pure_call (r14Blank_any _ _) S.out.alloc1).mono ?_
 rintro e w1 ⟨rfl, hS⟩
 have S1 := Lib.hid hS
 clear hS
 go_wp2_with fail
 refine (pure_call (cellValid_any _ _ (S1.out.tabs HT.out)) S1.out).mono ?_
 rw [ok_blank]
 rintro e w2 ⟨rfl, hS⟩
 have S2 := Lib.hid hS
 clear hS
 go_wp2_with fail
 go_ret
 exact ⟨rfl, S2.out.tail⟩
set_option maxHeartbeats 2000000 in
theorem savedValid_any (s : Saved) (hS : Objs w0 w os) : Calls Tryd.prog 36 #[.agg (sv s)] w fun e w' => e = .returned (.bool s.ok) ∧ Objs w0 w' os := by
 have hc : (s.row < 0 ∧ s.ok = false) ∨ (0 ≤ s.row ∧ 1000 ≤ s.row ∧ s.ok = false) ∨ ((0 ≤ s.row ∧ s.row < 1000) ∧ s.col < 0 ∧ s.ok = false) ∨ ((0 ≤ s.row ∧ s.row < 1000) ∧ (0 ≤ s.col ∧ 1000 ≤ s.col) ∧ s.ok = false) ∨ ((0 ≤ s.row ∧ s.row < 1000) ∧ (0 ≤ s.col ∧ s.col < 1000) ∧ s.q.ok = false ∧ s.ok = false) ∨ ((0 ≤ s.row ∧ s.row < 1000) ∧ (0 ≤ s.col ∧ s.col < 1000) ∧ s.q.ok = true ∧ s.ok = chOk s.s0 s.s1 s.act) := by
  unfold Saved.ok
  by_cases h1 : s.row < 0
  ·exact .inl ⟨h1, by simp [show ¬ 0 ≤ s.row by omega]⟩
  by_cases h2 : 1000 ≤ s.row
  ·exact .inr (.inl ⟨by omega, h2, by simp [show ¬ s.row < 1000 by omega]⟩)
  by_cases h3 : s.col < 0
  ·exact .inr (.inr (.inl ⟨by omega, h3, by simp [show ¬ 0 ≤ s.col by omega]⟩))
  by_cases h4 : 1000 ≤ s.col
  ·exact .inr (.inr (.inr (.inl ⟨by omega, by omega, by simp [show ¬ s.col < 1000 by omega]⟩)))
  cases h5 : s.q.ok
  ·exact .inr (.inr (.inr (.inr (.inl ⟨by omega, by omega, rfl, by simp⟩))))
  ·exact .inr (.inr (.inr (.inr (.inr ⟨by omega, by omega, rfl, by simp [show 0 ≤ s.row ∧ s.row < 1000 by omega, show 0 ≤ s.col ∧ s.col < 1000 by omega]⟩))))
 have S := Lib.hid hS
 clear hS
 rcases hc with ⟨h1, hr⟩ | ⟨h1, h2, hr⟩ | ⟨h1, h2, hr⟩ | ⟨h1, h2, hr⟩ | ⟨h1, h2, h3, hr⟩ | ⟨h1, h2, h3, hr⟩
 case' inr.inl => have h3 : ¬ s.row < 1000 := by omega
 case' inr.inr.inr.inl => have h3 : ¬ s.col < 1000 := by omega
 case' inr.inr.inr.inr.inl => have H3 := Lib.hid h3; clear h3
 case' inr.inr.inr.inr.inr => have H3 := Lib.hid h3; clear h3
 all_goals
  rw [hr]
  clear hr
  go_enter Tryd.func36, Tryd.ntmps36
  go_upto_region 1 with (fail)
  refine at_objsC (S.out.alloc1 (c1 := sv s) (t1 := 35)) (fun W hW => ?_)
  generalize w.heap.size = b1 at hW ⊢
  have S1 := Lib.hid hW
  clear hW
  obtain ⟨hx1, hf1, hz1, hr1, hp1⟩ := (S1.out.box (k := 0) rfl).saved
  go_upto_region 2 with (fail)
  refine at_objsC (S1.out.alloc1 (c1 := #[.int .i64 s.row, .int .i64 s.col, .bool s.pend]) (t1 := 23)) (fun W2 hW => ?_)
  generalize W.heap.size = b3 at hW ⊢
  clear hx1 hf1 hz1 hr1 hp1
  have S2 := Lib.hid hW
  clear hW S1
  obtain ⟨hx1, hf1, hz1, hr1, hp1⟩ := (S2.out.box (k := 1) rfl).saved
  obtain ⟨hx3, hf3, hz3⟩ := (S2.out.box (k := 0) rfl).facts
  go_wp2_with fail
 all_goals first | (go_ret; exact ⟨rfl, S2.out.tail.tail⟩) | skip
 ·refine (pure_call (pen_yes _ H3.out) S2.out).mono ?_
  rintro e w3 ⟨rfl, hS⟩
  have S3 := Lib.hid hS
  clear hS S2 hx1 hf1 hz1 hr1 hp1 hx3 hf3 hz3
  obtain ⟨hx1, hf1, hz1, hr1, hp1⟩ := (S3.out.box (k := 1) rfl).saved
  go_wp2_with fail
  refine (pure_call (charsetValid_any _ _ _ _) S3.out).mono ?_
  rintro e w4 ⟨rfl, hS⟩
  have S4 := Lib.hid hS
  clear hS
  go_wp2_with fail
  go_ret
  exact ⟨rfl, S4.out.tail.tail⟩
 ·refine (pure_call (pen_no _ H3.out) S2.out).mono ?_
  rintro e w3 ⟨rfl, hS⟩
  have S3 := Lib.hid hS
  clear hS
  go_wp2_with fail
  go_ret
  exact ⟨rfl, S3.out.tail.tail⟩
end
end Go.Proofs.YtdndoikgnohkkaaDoor

namespace Go.Proofs.YtdndoikgnohkkaaDoor
open Go.RowKit

def putC (j : Nat) (x : Cell) (cs : List Cell) : List Cell :=
 let l := (brk (j + x.width.toNat) (brk j cs)).set j x
 if x.width = 2 then l.set (j + 1) (spacer x.pen) else l
theorem putC_length (j : Nat) (x : Cell) (cs : List Cell) : (putC j x cs).length = cs.length := by
 unfold putC
 simp only
 split <;> simp [brk_length]
theorem ok_w12 {x : Cell} (h : x.ok = true) (h0 : ¬ x.width = 0) : x.width = 1 ∨ x.width = 2 := by
 rcases ok_width h with h1 | h1 | h1
 ·exact absurd h1 h0
 ·exact .inl h1
 ·exact .inr h1
section
variable {w0 w : World} {os : List Ob} {p cols : Nat} {L : List Ln}
theorem Objs.openAt {t : TypeId} {cols : Int} {i : Nat} {l : Ln} (h : Objs w0 w (.grid p t cols L :: os)) (hl : L[i]? = some l) : ∃ v b, Objs w0 w (.cells b l.1 :: .linesx v L i b :: .box p t #[.int .i64 cols, v] :: os) := by
 obtain ⟨v, h1⟩ := h.openGrid (k := 0) rfl
 obtain ⟨b, h2⟩ := h1.openRow (k := 0) rfl hl
 exact ⟨v, b, h2⟩
theorem Objs.closeAt {t : TypeId} {cols : Int} {v b : Value} {i : Nat} {l : Ln} {cs : List Cell} (h : Objs w0 w (.cells b cs :: .linesx v L i b :: .box p t #[.int .i64 cols, v] :: os)) (hl : L[i]? = some l) : Objs w0 w (.grid p t cols (L.set i (cs, l.2)) :: os) := by
 have h1 := h.closeRow (k := 0) (s := l.2) rfl (by rw [hl]; rfl)
 exact (h1 : Objs w0 w (.lines v _ :: .box p t _ :: os)).closeGrid (k := 0) rfl
theorem Objs.swap {a b : Ob} (h : Objs w0 w (a :: b :: os)) : Objs w0 w (b :: a :: os) := by
 have h1 := h.lift (k := 1) (o := b) rfl
 exact h1.del 2
set_option maxHeartbeats 400000 in
theorem Put_out (row col : Int) (x : Cell) (hS : Objs w0 w (.grid p 83 cols L :: os)) (hc : 0 < cols) (hno : ¬ ((0 ≤ row ∧ row < L.length) ∧ 0 ≤ col ∧ col < cols)) :
  Calls Tryd.prog 44 #[.pointer (some ⟨p, 0, none⟩), .int .i64 row, .int .i64 col, .agg (cv x)] w fun e w' => e = .returned (.int .i64 3) ∧ Objs w0 w' (.grid p 83 cols L :: os) := by
 have S := Lib.hid hS
 have HE := Lib.hid (show atE row col cols L = 3 by unfold atE; rw [if_neg hno])
 clear hS hno
 go_enter Tryd.func44, Tryd.ntmps44
 go_wp2_with fail
 refine (at_any _ _ S.out.alloc1 (k := 1) rfl hc).mono ?_
 rw [HE.out]
 rintro e w1 ⟨rfl, hS⟩
 have S1 := Lib.hid hS
 clear hS S
 go_wp2_with fail
 go_ret
 exact ⟨rfl, S1.out.tail⟩
set_option maxRecDepth 100000 in
set_option maxHeartbeats 2000000 in
theorem Put_bad1 {i j : Nat} (x : Cell) (hT : Tabs w0) (hS : Objs w0 w (.grid p 83 cols L :: os)) (hc : 0 < cols) (hcm : cols ≤ 1000) (hi : i < L.length) (hj : j < cols) (hv : x.ok = false) :
  Calls Tryd.prog 44 #[.pointer (some ⟨p, 0, none⟩), .int .i64 i, .int .i64 j, .agg (cv x)] w fun e w' => e = .returned (.int .i64 2) ∧ Objs w0 w' (.grid p 83 cols L :: os) := by
 have S := Lib.hid hS
 have HT := Lib.hid hT
 have HE := Lib.hid (show atE i j cols L = 0 by unfold atE; rw [if_pos ⟨⟨by omega, by omega⟩, by omega, by omega⟩])
 clear hS hT
 have HV := Lib.hid hv
 clear hv
 go_enter Tryd.func44, Tryd.ntmps44
 go_wp2_with fail
 refine (at_any _ _ S.out.alloc1 (k := 1) rfl hc).mono ?_
 rw [HE.out]
 rintro e w1 ⟨rfl, hS⟩
 have S1 := Lib.hid hS
 clear hS S
 generalize w.heap.size = b7 at S1 ⊢
 go_upto_region 4 with (fail)
 refine wp_region_stage (w0 := w0) (os := os) (by kernel_rfl) (by kernel_rfl) (by kernel_rfl) [] [[0], [], [], [], [], [], [], [], [], [], [], [], [], [], [], [], [], [], []] [.box b7 61 (cv x), .grid p 83 cols L] (fun i u => match i with | 0 => u = .agg (cv x) | 1 => u = .bool false | 2 => u = .bool true | 3 => u = .bool true | 4 => True | 5 => True | 6 => True | 7 => u = .bool true | 8 => u = .bool true | 9 => True | 10 => True | 11 => True | 12 => True | 13 => True | 14 => True | 15 => True | 16 => True | 17 => True | 18 => u = .bool true | _ => True) (fun vs => [.box b7 61 (cv x), .grid p 83 cols L]) (by kernel_rfl) (fun vs => by rfl) S1.out ?_ ?_
 ·apply sc
  ·intro a w' vs σ hS hl hs hk
   have f7 : a.tmps[7]?.getD undef = .pointer (some ⟨b7, 0, none⟩) := sof hk
   have hx := (hS.box (sg (hs 0 (by decide)))).box.2.2.2.1
   exact rp (.agg (cv x)) (by simp [execOp, Act.eval, f7, go_sem, hx]) hl hs hS
  apply sc
  ·intro a w' vs σ hS hl hs hk
   have e18 : a.tmps.getD 18 undef = .agg (cv x) := svv hk 0
   exact ro_call (f := 53) (wanted_none rfl) rfl (by simp only [List.map_toArray, List.map_cons, List.map_nil, Act.eval, e18] <;> rfl) (fun _ _ => by kernel_rfl) ((valid_no HV.out w' (hS.tabs HT.out)).mono fun e w2 ⟨h1, h2⟩ => ⟨_, h1, sp_same (by kernel_rfl) hl hs (hS.bel h2) rfl, trivial⟩)
  apply sc
  ·intro a w' vs σ hS hl hs hk
   have f19 : a.tmps[19]?.getD undef = .bool false := sf hk 1
   exact rp (.bool true) (by simp [execOp, Act.eval, f19, go_sem]) hl hs hS
  apply sc
  ·intro a w' vs σ hS hl hs hk
   have f20 : a.tmps[20]?.getD undef = .bool true := sf hk 2
   exact rp (.bool true) (by simp [execOp, Act.eval, f20, go_sem]) hl hs hS
  apply sc
  ·intro a w' vs σ hS hl hs hk
   exact rs_skip (wanted_no rfl rfl rfl (svv hk 3) (by decide)) (sp_same (by kernel_rfl) hl hs hS trivial)
  apply sc
  ·intro a w' vs σ hS hl hs hk
   exact rs_skip (wanted_no rfl rfl rfl (svv hk 3) (by decide)) (sp_same (by kernel_rfl) hl hs hS trivial)
  apply sc
  ·intro a w' vs σ hS hl hs hk
   exact rs_skip (wanted_no rfl rfl rfl (svv hk 3) (by decide)) (sp_same (by kernel_rfl) hl hs hS trivial)
  apply sc
  ·intro a w' vs σ hS hl hs hk
   have f21 : a.tmps[21]?.getD undef = .bool true := sf hk 3
   have e24 : a.tmps.getD 24 undef = vs 6 := sk_val hk 6 (by kernel_rfl) rfl rfl
   have p24 : (fun u : Value => True) (vs 6) := (hk.1 6 (by kernel_rfl)).1
   have f24 := gd e24
   exact rp (.bool true) (by simp [execOp, Act.eval, f21, e24, f24, go_sem]) hl hs hS
  apply sc
  ·intro a w' vs σ hS hl hs hk
   have f25 : a.tmps[25]?.getD undef = .bool true := sf hk 7
   exact rp (.bool true) (by simp [execOp, Act.eval, f25, go_sem]) hl hs hS
  apply sc
  ·intro a w' vs σ hS hl hs hk
   exact rs_skip (wanted_no rfl rfl rfl (svv hk 8) (by decide)) (sp_same (by kernel_rfl) hl hs hS trivial)
  apply sc
  ·intro a w' vs σ hS hl hs hk
   exact rs_skip (wanted_no rfl rfl rfl (svv hk 8) (by decide)) (sp_same (by kernel_rfl) hl hs hS trivial)
  apply sc
  ·intro a w' vs σ hS hl hs hk
   exact rs_skip (wanted_no rfl rfl rfl (svv hk 8) (by decide)) (sp_same (by kernel_rfl) hl hs hS trivial)
  apply sc
  ·intro a w' vs σ hS hl hs hk
   exact rs_skip (wanted_no rfl rfl rfl (svv hk 8) (by decide)) (sp_same (by kernel_rfl) hl hs hS trivial)
  apply sc
  ·intro a w' vs σ hS hl hs hk
   exact rs_skip (wanted_no rfl rfl rfl (svv hk 8) (by decide)) (sp_same (by kernel_rfl) hl hs hS trivial)
  apply sc
  ·intro a w' vs σ hS hl hs hk
   exact rs_skip (wanted_no rfl rfl rfl (svv hk 8) (by decide)) (sp_same (by kernel_rfl) hl hs hS trivial)
  apply sc
  ·intro a w' vs σ hS hl hs hk
   exact rs_skip (wanted_no rfl rfl rfl (svv hk 8) (by decide)) (sp_same (by kernel_rfl) hl hs hS trivial)
  apply sc
  ·intro a w' vs σ hS hl hs hk
   exact rs_skip (wanted_no rfl rfl rfl (svv hk 8) (by decide)) (sp_same (by kernel_rfl) hl hs hS trivial)
  apply sc
  ·intro a w' vs σ hS hl hs hk
   exact rs_skip (wanted_no rfl rfl rfl (svv hk 8) (by decide)) (sp_same (by kernel_rfl) hl hs hS trivial)
  apply sc
  ·intro a w' vs σ hS hl hs hk
   have f26 : a.tmps[26]?.getD undef = .bool true := sf hk 8
   have e35 : a.tmps.getD 35 undef = vs 17 := sk_val hk 17 (by kernel_rfl) rfl rfl
   have p35 : (fun u : Value => True) (vs 17) := (hk.1 17 (by kernel_rfl)).1
   have f35 := gd e35
   exact rp (.bool true) (by simp [execOp, Act.eval, f26, e35, f35, go_sem]) hl hs hS
  exact SSteps.nil
 ·intro vs w' hS hv
  have q0 : vs 0 = _ := hv 0 (by decide)
  have q1 : vs 1 = _ := hv 1 (by decide)
  have q2 : vs 2 = _ := hv 2 (by decide)
  have q3 : vs 3 = _ := hv 3 (by decide)
  have q7 : vs 7 = _ := hv 7 (by decide)
  have q8 : vs 8 = _ := hv 8 (by decide)
  have q18 : vs 18 = _ := hv 18 (by decide)
  have S2 := Lib.hid hS
  simp only [putL, Act.put, Nat.zero_add, Nat.reduceAdd, List.setIfInBounds_toArray, List.set_cons_succ, List.set_cons_zero, q0, q1, q2, q3, q7, q8, q18]
  clear hS hv q0 q1 q2 q3 q7 q8 q18
  go_wp2_with fail
  go_ret
  exact ⟨rfl, S2.out.tail⟩
set_option maxRecDepth 100000 in
set_option maxHeartbeats 2000000 in
theorem Put_bad2 {i j : Nat} (x : Cell) (hT : Tabs w0) (hS : Objs w0 w (.grid p 83 cols L :: os)) (hc : 0 < cols) (hcm : cols ≤ 1000) (hi : i < L.length) (hj : j < cols) (hv : x.ok = true) (hw : x.width = 0) :
  Calls Tryd.prog 44 #[.pointer (some ⟨p, 0, none⟩), .int .i64 i, .int .i64 j, .agg (cv x)] w fun e w' => e = .returned (.int .i64 2) ∧ Objs w0 w' (.grid p 83 cols L :: os) := by
 have S := Lib.hid hS
 have HT := Lib.hid hT
 have HE := Lib.hid (show atE i j cols L = 0 by unfold atE; rw [if_pos ⟨⟨by omega, by omega⟩, by omega, by omega⟩])
 clear hS hT
 have HV := Lib.hid hv
 have hw0 := beq_yes hw
 have HW := Lib.hid hw
 clear hv hw
 go_enter Tryd.func44, Tryd.ntmps44
 go_wp2_with fail
 refine (at_any _ _ S.out.alloc1 (k := 1) rfl hc).mono ?_
 rw [HE.out]
 rintro e w1 ⟨rfl, hS⟩
 have S1 := Lib.hid hS
 clear hS S
 generalize w.heap.size = b7 at S1 ⊢
 go_upto_region 4 with (fail)
 refine wp_region_stage (w0 := w0) (os := os) (by kernel_rfl) (by kernel_rfl) (by kernel_rfl) [] [[0], [], [], [], [], [0], [], [], [], [], [], [], [], [], [], [], [], [], []] [.box b7 61 (cv x), .grid p 83 cols L] (fun i u => match i with | 0 => u = .agg (cv x) | 1 => u = .bool true | 2 => u = .bool false | 3 => u = .bool false | 4 => u = .pointer (some ⟨b7, 4, none⟩) | 5 => u = .int .i64 x.width | 6 => u = .bool true | 7 => u = .bool true | 8 => u = .bool true | 9 => True | 10 => True | 11 => True | 12 => True | 13 => True | 14 => True | 15 => True | 16 => True | 17 => True | 18 => u = .bool true | _ => True) (fun vs => [.box b7 61 (cv x), .grid p 83 cols L]) (by kernel_rfl) (fun vs => by rfl) S1.out ?_ ?_
 ·apply sc
  ·intro a w' vs σ hS hl hs hk
   have f7 : a.tmps[7]?.getD undef = .pointer (some ⟨b7, 0, none⟩) := sof hk
   have hx := (hS.box (sg (hs 0 (by decide)))).box.2.2.2.1
   exact rp (.agg (cv x)) (by simp [execOp, Act.eval, f7, go_sem, hx]) hl hs hS
  apply sc
  ·intro a w' vs σ hS hl hs hk
   have e18 : a.tmps.getD 18 undef = .agg (cv x) := svv hk 0
   exact ro_call (f := 53) (wanted_none rfl) rfl (by simp only [List.map_toArray, List.map_cons, List.map_nil, Act.eval, e18] <;> rfl) (fun _ _ => by kernel_rfl) ((valid_yes HV.out w' (hS.tabs HT.out)).mono fun e w2 ⟨h1, h2⟩ => ⟨_, h1, sp_same (by kernel_rfl) hl hs (hS.bel h2) rfl, trivial⟩)
  apply sc
  ·intro a w' vs σ hS hl hs hk
   have f19 : a.tmps[19]?.getD undef = .bool true := sf hk 1
   exact rp (.bool false) (by simp [execOp, Act.eval, f19, go_sem]) hl hs hS
  apply sc
  ·intro a w' vs σ hS hl hs hk
   have f20 : a.tmps[20]?.getD undef = .bool false := sf hk 2
   exact rp (.bool false) (by simp [execOp, Act.eval, f20, go_sem]) hl hs hS
  apply sc
  ·intro a w' vs σ hS hl hs hk
   have f7 : a.tmps[7]?.getD undef = .pointer (some ⟨b7, 0, none⟩) := sof hk
   exact rq (pt b7 4) (wanted_yes rfl rfl rfl (svv hk 3)) (by simp [execOp, Act.eval, f7, go_sem]) hl hs hS
  apply sc
  ·intro a w' vs σ hS hl hs hk
   have f22 : a.tmps[22]?.getD undef = .pointer (some ⟨b7, 4, none⟩) := sf hk 4
   have hx := (hS.box (sg (hs 0 (by decide)))).box.1
   exact rq (.int .i64 x.width) (wanted_yes rfl rfl rfl (svv hk 3)) (by simp [execOp, Act.eval, f22, go_sem, hx]) hl hs hS
  apply sc
  ·intro a w' vs σ hS hl hs hk
   have f23 : a.tmps[23]?.getD undef = .int .i64 x.width := sf hk 5
   exact rq (.bool true) (wanted_yes rfl rfl rfl (svv hk 3)) (by simp [execOp, Act.eval, f23, go_sem, hw0]) hl hs hS
  apply sc
  ·intro a w' vs σ hS hl hs hk
   have f21 : a.tmps[21]?.getD undef = .bool false := sf hk 3
   have f24 : a.tmps[24]?.getD undef = .bool true := sf hk 6
   exact rp (.bool true) (by simp [execOp, Act.eval, f21, f24, go_sem]) hl hs hS
  apply sc
  ·intro a w' vs σ hS hl hs hk
   have f25 : a.tmps[25]?.getD undef = .bool true := sf hk 7
   exact rp (.bool true) (by simp [execOp, Act.eval, f25, go_sem]) hl hs hS
  apply sc
  ·intro a w' vs σ hS hl hs hk
   exact rs_skip (wanted_no rfl rfl rfl (svv hk 8) (by decide)) (sp_same (by kernel_rfl) hl hs hS trivial)
  apply sc
  ·intro a w' vs σ hS hl hs hk
   exact rs_skip (wanted_no rfl rfl rfl (svv hk 8) (by decide)) (sp_same (by kernel_rfl) hl hs hS trivial)
  apply sc
  ·intro a w' vs σ hS hl hs hk
   exact rs_skip (wanted_no rfl rfl rfl (svv hk 8) (by decide)) (sp_same (by kernel_rfl) hl hs hS trivial)
  apply sc
  ·intro a w' vs σ hS hl hs hk
   exact rs_skip (wanted_no rfl rfl rfl (svv hk 8) (by decide)) (sp_same (by kernel_rfl) hl hs hS trivial)
  apply sc
  ·intro a w' vs σ hS hl hs hk
   exact rs_skip (wanted_no rfl rfl rfl (svv hk 8) (by decide)) (sp_same (by kernel_rfl) hl hs hS trivial)
  apply sc
  ·intro a w' vs σ hS hl hs hk
   exact rs_skip (wanted_no rfl rfl rfl (svv hk 8) (by decide)) (sp_same (by kernel_rfl) hl hs hS trivial)
  apply sc
  ·intro a w' vs σ hS hl hs hk
   exact rs_skip (wanted_no rfl rfl rfl (svv hk 8) (by decide)) (sp_same (by kernel_rfl) hl hs hS trivial)
  apply sc
  ·intro a w' vs σ hS hl hs hk
   exact rs_skip (wanted_no rfl rfl rfl (svv hk 8) (by decide)) (sp_same (by kernel_rfl) hl hs hS trivial)
  apply sc
  ·intro a w' vs σ hS hl hs hk
   exact rs_skip (wanted_no rfl rfl rfl (svv hk 8) (by decide)) (sp_same (by kernel_rfl) hl hs hS trivial)
  apply sc
  ·intro a w' vs σ hS hl hs hk
   have f26 : a.tmps[26]?.getD undef = .bool true := sf hk 8
   have e35 : a.tmps.getD 35 undef = vs 17 := sk_val hk 17 (by kernel_rfl) rfl rfl
   have p35 : (fun u : Value => True) (vs 17) := (hk.1 17 (by kernel_rfl)).1
   have f35 := gd e35
   exact rp (.bool true) (by simp [execOp, Act.eval, f26, e35, f35, go_sem]) hl hs hS
  exact SSteps.nil
 ·intro vs w' hS hv
  have q0 : vs 0 = _ := hv 0 (by decide)
  have q1 : vs 1 = _ := hv 1 (by decide)
  have q2 : vs 2 = _ := hv 2 (by decide)
  have q3 : vs 3 = _ := hv 3 (by decide)
  have q4 : vs 4 = _ := hv 4 (by decide)
  have q5 : vs 5 = _ := hv 5 (by decide)
  have q6 : vs 6 = _ := hv 6 (by decide)
  have q7 : vs 7 = _ := hv 7 (by decide)
  have q8 : vs 8 = _ := hv 8 (by decide)
  have q18 : vs 18 = _ := hv 18 (by decide)
  have S2 := Lib.hid hS
  simp only [putL, Act.put, Nat.zero_add, Nat.reduceAdd, List.setIfInBounds_toArray, List.set_cons_succ, List.set_cons_zero, q0, q1, q2, q3, q4, q5, q6, q7, q8, q18]
  clear hS hv q0 q1 q2 q3 q4 q5 q6 q7 q8 q18
  go_wp2_with fail
  go_ret
  exact ⟨rfl, S2.out.tail⟩
set_option maxRecDepth 100000 in
set_option maxHeartbeats 2000000 in
theorem Put_bad3 {i j : Nat} (x : Cell) (hT : Tabs w0) (hS : Objs w0 w (.grid p 83 cols L :: os)) (hc : 0 < cols) (hcm : cols ≤ 1000) (hi : i < L.length) (hj : j < cols) (hv : x.ok = true) (hw : ¬ x.width = 0) (hov : (cols : Int) < j + x.width) :
  Calls Tryd.prog 44 #[.pointer (some ⟨p, 0, none⟩), .int .i64 i, .int .i64 j, .agg (cv x)] w fun e w' => e = .returned (.int .i64 2) ∧ Objs w0 w' (.grid p 83 cols L :: os) := by
 have S := Lib.hid hS
 have HT := Lib.hid hT
 have HE := Lib.hid (show atE i j cols L = 0 by unfold atE; rw [if_pos ⟨⟨by omega, by omega⟩, by omega, by omega⟩])
 clear hS hT
 have HV := Lib.hid hv
 have hw0 := beq_no hw
 have hxw : 0 ≤ x.width ∧ x.width ≤ 2 := by rcases ok_width hv with h | h | h <;> omega
 have hsum : IntKind.i64.wrap ((j : Int) + x.width) = j + x.width := IntWalk.i64_in _ (by omega)
 have HW := Lib.hid hw
 clear hv hw
 go_enter Tryd.func44, Tryd.ntmps44
 go_wp2_with fail
 refine (at_any _ _ S.out.alloc1 (k := 1) rfl hc).mono ?_
 rw [HE.out]
 rintro e w1 ⟨rfl, hS⟩
 have S1 := Lib.hid hS
 clear hS S
 generalize w.heap.size = b7 at S1 ⊢
 go_upto_region 4 with (fail)
 refine wp_region_stage (w0 := w0) (os := os) (by kernel_rfl) (by kernel_rfl) (by kernel_rfl) [] [[0], [], [], [], [], [0], [], [], [], [], [], [0], [], [], [], [], [1], [], []] [.box b7 61 (cv x), .grid p 83 cols L] (fun i u => match i with | 0 => u = .agg (cv x) | 1 => u = .bool true | 2 => u = .bool false | 3 => u = .bool false | 4 => u = .pointer (some ⟨b7, 4, none⟩) | 5 => u = .int .i64 x.width | 6 => u = .bool false | 7 => u = .bool false | 8 => u = .bool false | 9 => u = .int .i64 ↑j | 10 => u = .pointer (some ⟨b7, 4, none⟩) | 11 => u = .int .i64 x.width | 12 => u = .int .i64 (↑j + x.width) | 13 => u = .pointer (some ⟨p, 0, none⟩) | 14 => u = .pointer (some ⟨p, 0, none⟩) | 15 => u = .pointer (some ⟨p, 0, none⟩) | 16 => u = .int .i64 ↑cols | 17 => u = .bool true | 18 => u = .bool true | _ => True) (fun vs => [.box b7 61 (cv x), .grid p 83 cols L]) (by kernel_rfl) (fun vs => by rfl) S1.out ?_ ?_
 ·apply sc
  ·intro a w' vs σ hS hl hs hk
   have f7 : a.tmps[7]?.getD undef = .pointer (some ⟨b7, 0, none⟩) := sof hk
   have hx := (hS.box (sg (hs 0 (by decide)))).box.2.2.2.1
   exact rp (.agg (cv x)) (by simp [execOp, Act.eval, f7, go_sem, hx]) hl hs hS
  apply sc
  ·intro a w' vs σ hS hl hs hk
   have e18 : a.tmps.getD 18 undef = .agg (cv x) := svv hk 0
   exact ro_call (f := 53) (wanted_none rfl) rfl (by simp only [List.map_toArray, List.map_cons, List.map_nil, Act.eval, e18] <;> rfl) (fun _ _ => by kernel_rfl) ((valid_yes HV.out w' (hS.tabs HT.out)).mono fun e w2 ⟨h1, h2⟩ => ⟨_, h1, sp_same (by kernel_rfl) hl hs (hS.bel h2) rfl, trivial⟩)
  apply sc
  ·intro a w' vs σ hS hl hs hk
   have f19 : a.tmps[19]?.getD undef = .bool true := sf hk 1
   exact rp (.bool false) (by simp [execOp, Act.eval, f19, go_sem]) hl hs hS
  apply sc
  ·intro a w' vs σ hS hl hs hk
   have f20 : a.tmps[20]?.getD undef = .bool false := sf hk 2
   exact rp (.bool false) (by simp [execOp, Act.eval, f20, go_sem]) hl hs hS
  apply sc
  ·intro a w' vs σ hS hl hs hk
   have f7 : a.tmps[7]?.getD undef = .pointer (some ⟨b7, 0, none⟩) := sof hk
   exact rq (pt b7 4) (wanted_yes rfl rfl rfl (svv hk 3)) (by simp [execOp, Act.eval, f7, go_sem]) hl hs hS
  apply sc
  ·intro a w' vs σ hS hl hs hk
   have f22 : a.tmps[22]?.getD undef = .pointer (some ⟨b7, 4, none⟩) := sf hk 4
   have hx := (hS.box (sg (hs 0 (by decide)))).box.1
   exact rq (.int .i64 x.width) (wanted_yes rfl rfl rfl (svv hk 3)) (by simp [execOp, Act.eval, f22, go_sem, hx]) hl hs hS
  apply sc
  ·intro a w' vs σ hS hl hs hk
   have f23 : a.tmps[23]?.getD undef = .int .i64 x.width := sf hk 5
   exact rq (.bool false) (wanted_yes rfl rfl rfl (svv hk 3)) (by simp [execOp, Act.eval, f23, go_sem, hw0]) hl hs hS
  apply sc
  ·intro a w' vs σ hS hl hs hk
   have f21 : a.tmps[21]?.getD undef = .bool false := sf hk 3
   have f24 : a.tmps[24]?.getD undef = .bool false := sf hk 6
   exact rp (.bool false) (by simp [execOp, Act.eval, f21, f24, go_sem]) hl hs hS
  apply sc
  ·intro a w' vs σ hS hl hs hk
   have f25 : a.tmps[25]?.getD undef = .bool false := sf hk 7
   exact rp (.bool false) (by simp [execOp, Act.eval, f25, go_sem]) hl hs hS
  apply sc
  ·intro a w' vs σ hS hl hs hk
   have f2 : a.tmps[2]?.getD undef = .int .i64 ↑j := sof hk
   exact rq (.int .i64 ↑j) (wanted_yes rfl rfl rfl (svv hk 8)) (by simp [execOp, Act.eval, f2, go_sem]) hl hs hS
  apply sc
  ·intro a w' vs σ hS hl hs hk
   have f7 : a.tmps[7]?.getD undef = .pointer (some ⟨b7, 0, none⟩) := sof hk
   exact rq (pt b7 4) (wanted_yes rfl rfl rfl (svv hk 8)) (by simp [execOp, Act.eval, f7, go_sem]) hl hs hS
  apply sc
  ·intro a w' vs σ hS hl hs hk
   have f28 : a.tmps[28]?.getD undef = .pointer (some ⟨b7, 4, none⟩) := sf hk 10
   have hx := (hS.box (sg (hs 0 (by decide)))).box.1
   exact rq (.int .i64 x.width) (wanted_yes rfl rfl rfl (svv hk 8)) (by simp [execOp, Act.eval, f28, go_sem, hx]) hl hs hS
  apply sc
  ·intro a w' vs σ hS hl hs hk
   have f27 : a.tmps[27]?.getD undef = .int .i64 ↑j := sf hk 9
   have f29 : a.tmps[29]?.getD undef = .int .i64 x.width := sf hk 11
   exact rq (.int .i64 (↑j + x.width)) (wanted_yes rfl rfl rfl (svv hk 8)) (by simp [execOp, Act.eval, f27, f29, go_sem, hsum]) hl hs hS
  apply sc
  ·intro a w' vs σ hS hl hs hk
   have f0 : a.tmps[0]?.getD undef = .pointer (some ⟨p, 0, none⟩) := sof hk
   exact rq (pt p 0) (wanted_yes rfl rfl rfl (svv hk 8)) (by simp [execOp, Act.eval, f0, go_sem]) hl hs hS
  apply sc
  ·intro a w' vs σ hS hl hs hk
   have f31 : a.tmps[31]?.getD undef = .pointer (some ⟨p, 0, none⟩) := sf hk 13
   exact rq (pt p 0) (wanted_yes rfl rfl rfl (svv hk 8)) (by simp [execOp, Act.eval, f31, go_sem]) hl hs hS
  apply sc
  ·intro a w' vs σ hS hl hs hk
   have f32 : a.tmps[32]?.getD undef = .pointer (some ⟨p, 0, none⟩) := sf hk 14
   exact rq (pt p 0) (wanted_yes rfl rfl rfl (svv hk 8)) (by simp [execOp, Act.eval, f32, go_sem]) hl hs hS
  apply sc
  ·intro a w' vs σ hS hl hs hk
   have f33 : a.tmps[33]?.getD undef = .pointer (some ⟨p, 0, none⟩) := sf hk 15
   obtain ⟨A1, c1, hB1, -, -⟩ := hS.gridRd (sg (hs 1 (by decide)))
   have hx := hB1.cell
   exact rq (.int .i64 ↑cols) (wanted_yes rfl rfl rfl (svv hk 8)) (by simp [execOp, Act.eval, f33, go_sem, hx]) hl hs hS
  apply sc
  ·intro a w' vs σ hS hl hs hk
   have f30 : a.tmps[30]?.getD undef = .int .i64 (↑j + x.width) := sf hk 12
   have f34 : a.tmps[34]?.getD undef = .int .i64 ↑cols := sf hk 16
   exact rq (.bool true) (wanted_yes rfl rfl rfl (svv hk 8)) (by simp [execOp, Act.eval, f30, f34, go_sem, hov]) hl hs hS
  apply sc
  ·intro a w' vs σ hS hl hs hk
   have f26 : a.tmps[26]?.getD undef = .bool false := sf hk 8
   have f35 : a.tmps[35]?.getD undef = .bool true := sf hk 17
   exact rp (.bool true) (by simp [execOp, Act.eval, f26, f35, go_sem]) hl hs hS
  exact SSteps.nil
 ·intro vs w' hS hv
  have q0 : vs 0 = _ := hv 0 (by decide)
  have q1 : vs 1 = _ := hv 1 (by decide)
  have q2 : vs 2 = _ := hv 2 (by decide)
  have q3 : vs 3 = _ := hv 3 (by decide)
  have q4 : vs 4 = _ := hv 4 (by decide)
  have q5 : vs 5 = _ := hv 5 (by decide)
  have q6 : vs 6 = _ := hv 6 (by decide)
  have q7 : vs 7 = _ := hv 7 (by decide)
  have q8 : vs 8 = _ := hv 8 (by decide)
  have q9 : vs 9 = _ := hv 9 (by decide)
  have q10 : vs 10 = _ := hv 10 (by decide)
  have q11 : vs 11 = _ := hv 11 (by decide)
  have q12 : vs 12 = _ := hv 12 (by decide)
  have q13 : vs 13 = _ := hv 13 (by decide)
  have q14 : vs 14 = _ := hv 14 (by decide)
  have q15 : vs 15 = _ := hv 15 (by decide)
  have q16 : vs 16 = _ := hv 16 (by decide)
  have q17 : vs 17 = _ := hv 17 (by decide)
  have q18 : vs 18 = _ := hv 18 (by decide)
  have S2 := Lib.hid hS
  simp only [putL, Act.put, Nat.zero_add, Nat.reduceAdd, List.setIfInBounds_toArray, List.set_cons_succ, List.set_cons_zero, q0, q1, q2, q3, q4, q5, q6, q7, q8, q9, q10, q11, q12, q13, q14, q15, q16, q17, q18]
  clear hS hv q0 q1 q2 q3 q4 q5 q6 q7 q8 q9 q10 q11 q12 q13 q14 q15 q16 q17 q18
  go_wp2_with fail
  go_ret
  exact ⟨rfl, S2.out.tail⟩
set_option maxRecDepth 100000 in
set_option maxHeartbeats 4000000 in
theorem Put_yes {i j : Nat} {l : Ln} (x : Cell) (hT : Tabs w0) (hS : Objs w0 w (.grid p 83 cols L :: os)) (hc : 0 < cols) (hcm : cols ≤ 1000) (hl : L[i]? = some l) (hrow : l.1.length = cols) (hv : x.ok = true) (hw : ¬ x.width = 0) (hfit : (j : Int) + x.width ≤ cols) :
  Calls Tryd.prog 44 #[.pointer (some ⟨p, 0, none⟩), .int .i64 i, .int .i64 j, .agg (cv x)] w fun e w' => e = .returned (.int .i64 0) ∧ Objs w0 w' (.grid p 83 cols (L.set i (putC j x l.1, l.2)) :: os) := by
 have S := Lib.hid hS
 have hi : i < L.length := (List.getElem?_eq_some_iff.1 hl).1
 have hxw : 1 ≤ x.width ∧ x.width ≤ 2 := by rcases ok_w12 hv hw with h | h <;> omega
 have hj : j < cols := by omega
 have HL := Lib.hid hl
 have HT := Lib.hid hT
 have HE := Lib.hid (show atE i j cols L = 0 by unfold atE; rw [if_pos ⟨⟨by omega, by omega⟩, by omega, by omega⟩])
 have HV := Lib.hid hv
 have hw0 := beq_no hw
 have hsum : IntKind.i64.wrap ((j : Int) + x.width) = j + x.width := IntWalk.i64_in _ (by omega)
 have hov : ¬ ((cols : Int) < j + x.width) := by omega
 have HROW := Lib.hid hrow
 have hlr : l.1.length ≤ 1000 := by omega
 have hjr : j < l.1.length := by omega
 clear hS hT hl hv hw hrow
 go_enter Tryd.func44, Tryd.ntmps44
 go_wp2_with fail
 refine (at_any _ _ S.out.alloc1 (k := 1) rfl hc).mono ?_
 rw [HE.out]
 rintro e w1 ⟨rfl, hS⟩
 have S1 := Lib.hid hS
 clear hS S
 generalize w.heap.size = b7 at S1 ⊢
 go_upto_region 4 with (fail)
 refine wp_region_stage (w0 := w0) (os := os) (by kernel_rfl) (by kernel_rfl) (by kernel_rfl) [] [[0], [], [], [], [], [0], [], [], [], [], [], [0], [], [], [], [], [1], [], []] [.box b7 61 (cv x), .grid p 83 cols L] (fun i u => match i with | 0 => u = .agg (cv x) | 1 => u = .bool true | 2 => u = .bool false | 3 => u = .bool false | 4 => u = .pointer (some ⟨b7, 4, none⟩) | 5 => u = .int .i64 x.width | 6 => u = .bool false | 7 => u = .bool false | 8 => u = .bool false | 9 => u = .int .i64 ↑j | 10 => u = .pointer (some ⟨b7, 4, none⟩) | 11 => u = .int .i64 x.width | 12 => u = .int .i64 (↑j + x.width) | 13 => u = .pointer (some ⟨p, 0, none⟩) | 14 => u = .pointer (some ⟨p, 0, none⟩) | 15 => u = .pointer (some ⟨p, 0, none⟩) | 16 => u = .int .i64 ↑cols | 17 => u = .bool false | 18 => u = .bool false | _ => True) (fun vs => [.box b7 61 (cv x), .grid p 83 cols L]) (by kernel_rfl) (fun vs => by rfl) S1.out ?_ ?_
 ·apply sc
  ·intro a w' vs σ hS hl hs hk
   have f7 : a.tmps[7]?.getD undef = .pointer (some ⟨b7, 0, none⟩) := sof hk
   have hx := (hS.box (sg (hs 0 (by decide)))).box.2.2.2.1
   exact rp (.agg (cv x)) (by simp [execOp, Act.eval, f7, go_sem, hx]) hl hs hS
  apply sc
  ·intro a w' vs σ hS hl hs hk
   have e18 : a.tmps.getD 18 undef = .agg (cv x) := svv hk 0
   exact ro_call (f := 53) (wanted_none rfl) rfl (by simp only [List.map_toArray, List.map_cons, List.map_nil, Act.eval, e18] <;> rfl) (fun _ _ => by kernel_rfl) ((valid_yes HV.out w' (hS.tabs HT.out)).mono fun e w2 ⟨h1, h2⟩ => ⟨_, h1, sp_same (by kernel_rfl) hl hs (hS.bel h2) rfl, trivial⟩)
  apply sc
  ·intro a w' vs σ hS hl hs hk
   have f19 : a.tmps[19]?.getD undef = .bool true := sf hk 1
   exact rp (.bool false) (by simp [execOp, Act.eval, f19, go_sem]) hl hs hS
  apply sc
  ·intro a w' vs σ hS hl hs hk
   have f20 : a.tmps[20]?.getD undef = .bool false := sf hk 2
   exact rp (.bool false) (by simp [execOp, Act.eval, f20, go_sem]) hl hs hS
  apply sc
  ·intro a w' vs σ hS hl hs hk
   have f7 : a.tmps[7]?.getD undef = .pointer (some ⟨b7, 0, none⟩) := sof hk
   exact rq (pt b7 4) (wanted_yes rfl rfl rfl (svv hk 3)) (by simp [execOp, Act.eval, f7, go_sem]) hl hs hS
  apply sc
  ·intro a w' vs σ hS hl hs hk
   have f22 : a.tmps[22]?.getD undef = .pointer (some ⟨b7, 4, none⟩) := sf hk 4
   have hx := (hS.box (sg (hs 0 (by decide)))).box.1
   exact rq (.int .i64 x.width) (wanted_yes rfl rfl rfl (svv hk 3)) (by simp [execOp, Act.eval, f22, go_sem, hx]) hl hs hS
  apply sc
  ·intro a w' vs σ hS hl hs hk
   have f23 : a.tmps[23]?.getD undef = .int .i64 x.width := sf hk 5
   exact rq (.bool false) (wanted_yes rfl rfl rfl (svv hk 3)) (by simp [execOp, Act.eval, f23, go_sem, hw0]) hl hs hS
  apply sc
  ·intro a w' vs σ hS hl hs hk
   have f21 : a.tmps[21]?.getD undef = .bool false := sf hk 3
   have f24 : a.tmps[24]?.getD undef = .bool false := sf hk 6
   exact rp (.bool false) (by simp [execOp, Act.eval, f21, f24, go_sem]) hl hs hS
  apply sc
  ·intro a w' vs σ hS hl hs hk
   have f25 : a.tmps[25]?.getD undef = .bool false := sf hk 7
   exact rp (.bool false) (by simp [execOp, Act.eval, f25, go_sem]) hl hs hS
  apply sc
  ·intro a w' vs σ hS hl hs hk
   have f2 : a.tmps[2]?.getD undef = .int .i64 ↑j := sof hk
   exact rq (.int .i64 ↑j) (wanted_yes rfl rfl rfl (svv hk 8)) (by simp [execOp, Act.eval, f2, go_sem]) hl hs hS
  apply sc
  ·intro a w' vs σ hS hl hs hk
   have f7 : a.tmps[7]?.getD undef = .pointer (some ⟨b7, 0, none⟩) := sof hk
   exact rq (pt b7 4) (wanted_yes rfl rfl rfl (svv hk 8)) (by simp [execOp, Act.eval, f7, go_sem]) hl hs hS
  apply sc
  ·intro a w' vs σ hS hl hs hk
   have f28 : a.tmps[28]?.getD undef = .pointer (some ⟨b7, 4, none⟩) := sf hk 10
   have hx := (hS.box (sg (hs 0 (by decide)))).box.1
   exact rq (.int .i64 x.width) (wanted_yes rfl rfl rfl (svv hk 8)) (by simp [execOp, Act.eval, f28, go_sem, hx]) hl hs hS
  apply sc
  ·intro a w' vs σ hS hl hs hk
   have f27 : a.tmps[27]?.getD undef = .int .i64 ↑j := sf hk 9
   have f29 : a.tmps[29]?.getD undef = .int .i64 x.width := sf hk 11
   exact rq (.int .i64 (↑j + x.width)) (wanted_yes rfl rfl rfl (svv hk 8)) (by simp [execOp, Act.eval, f27, f29, go_sem, hsum]) hl hs hS
  apply sc
  ·intro a w' vs σ hS hl hs hk
   have f0 : a.tmps[0]?.getD undef = .pointer (some ⟨p, 0, none⟩) := sof hk
   exact rq (pt p 0) (wanted_yes rfl rfl rfl (svv hk 8)) (by simp [execOp, Act.eval, f0, go_sem]) hl hs hS
  apply sc
  ·intro a w' vs σ hS hl hs hk
   have f31 : a.tmps[31]?.getD undef = .pointer (some ⟨p, 0, none⟩) := sf hk 13
   exact rq (pt p 0) (wanted_yes rfl rfl rfl (svv hk 8)) (by simp [execOp, Act.eval, f31, go_sem]) hl hs hS
  apply sc
  ·intro a w' vs σ hS hl hs hk
   have f32 : a.tmps[32]?.getD undef = .pointer (some ⟨p, 0, none⟩) := sf hk 14
   exact rq (pt p 0) (wanted_yes rfl rfl rfl (svv hk 8)) (by simp [execOp, Act.eval, f32, go_sem]) hl hs hS
  apply sc
  ·intro a w' vs σ hS hl hs hk
   have f33 : a.tmps[33]?.getD undef = .pointer (some ⟨p, 0, none⟩) := sf hk 15
   obtain ⟨A1, c1, hB1, -, -⟩ := hS.gridRd (sg (hs 1 (by decide)))
   have hx := hB1.cell
   exact rq (.int .i64 ↑cols) (wanted_yes rfl rfl rfl (svv hk 8)) (by simp [execOp, Act.eval, f33, go_sem, hx]) hl hs hS
  apply sc
  ·intro a w' vs σ hS hl hs hk
   have f30 : a.tmps[30]?.getD undef = .int .i64 (↑j + x.width) := sf hk 12
   have f34 : a.tmps[34]?.getD undef = .int .i64 ↑cols := sf hk 16
   exact rq (.bool false) (wanted_yes rfl rfl rfl (svv hk 8)) (by simp [execOp, Act.eval, f30, f34, go_sem, hov]) hl hs hS
  apply sc
  ·intro a w' vs σ hS hl hs hk
   have f26 : a.tmps[26]?.getD undef = .bool false := sf hk 8
   have f35 : a.tmps[35]?.getD undef = .bool false := sf hk 17
   exact rp (.bool false) (by simp [execOp, Act.eval, f26, f35, go_sem]) hl hs hS
  exact SSteps.nil
 ·intro vs w' hS hv
  have q0 : vs 0 = _ := hv 0 (by decide)
  have q1 : vs 1 = _ := hv 1 (by decide)
  have q2 : vs 2 = _ := hv 2 (by decide)
  have q3 : vs 3 = _ := hv 3 (by decide)
  have q4 : vs 4 = _ := hv 4 (by decide)
  have q5 : vs 5 = _ := hv 5 (by decide)
  have q6 : vs 6 = _ := hv 6 (by decide)
  have q7 : vs 7 = _ := hv 7 (by decide)
  have q8 : vs 8 = _ := hv 8 (by decide)
  have q9 : vs 9 = _ := hv 9 (by decide)
  have q10 : vs 10 = _ := hv 10 (by decide)
  have q11 : vs 11 = _ := hv 11 (by decide)
  have q12 : vs 12 = _ := hv 12 (by decide)
  have q13 : vs 13 = _ := hv 13 (by decide)
  have q14 : vs 14 = _ := hv 14 (by decide)
  have q15 : vs 15 = _ := hv 15 (by decide)
  have q16 : vs 16 = _ := hv 16 (by decide)
  have q17 : vs 17 = _ := hv 17 (by decide)
  have q18 : vs 18 = _ := hv 18 (by decide)
  have S2 := Lib.hid hS
  simp only [putL, Act.put, Nat.zero_add, Nat.reduceAdd, List.setIfInBounds_toArray, List.set_cons_succ, List.set_cons_zero, q0, q1, q2, q3, q4, q5, q6, q7, q8, q9, q10, q11, q12, q13, q14, q15, q16, q17, q18]
  clear hS hv q0 q1 q2 q3 q4 q5 q6 q7 q8 q9 q10 q11 q12 q13 q14 q15 q16 q17 q18
  clear hsum hw0 hov
  obtain ⟨v, b, hS3⟩ := S2.out.swap.openAt HL.out
  obtain ⟨A, c, rfl, -⟩ := hS3.cellsRd (k := 0) rfl
  obtain ⟨g, rfl, -, -, -, -⟩ := (hS3.own (k := 0) rfl).head (by omega)
  obtain ⟨gr, cr, rfl, h1, h2, h3, h4, h5, h6, h7⟩ := hS3.linesxRd (k := 1) rfl
  obtain ⟨hx2, hf2, hz2⟩ := (hS3.box (k := 2) rfl).facts
  have hlen2 : L.length ≤ 9223372036854775807 := by unfold maxLen at h2; omega
  have S3 := Lib.hid hS3
  clear hS3 h1 h2 h6
  go_wp2_with fail
  refine (split_at S3.out rfl rfl (by omega) (by omega)).mono ?_
  rintro e w4 ⟨rfl, hS4⟩
  have S4 := Lib.hid hS4
  obtain ⟨hx7, hf7, hz7, hc7, hp7⟩ := (hS4.box (k := 3) rfl).box
  clear hS4 hx2 hf2 hz2 h4 h5 h7
  go_wp2_with fail
  refine (split_at (c := j + x.width.toNat) S4.out (by rw [brk_length]) (by omega) (by rw [brk_length]; omega) (by omega)).mono ?_
  rintro e w5 ⟨rfl, hS5⟩
  obtain ⟨W, hst, ho, hg⟩ := (hS5.own (k := 0) rfl).putAt (k := j) (by rw [brk_length, brk_length]; omega) x
  have hS6 := hS5.cellsUpd (k := 0) rfl ho hg
  clear hx7 hf7 hz7 hc7 hp7
  obtain ⟨hx5, hf5, hz5, hc5, hp5⟩ := (hS5.box (k := 3) rfl).box
  obtain ⟨hx7, hf7, hz7, hc7, hp7⟩ := (hS6.box (k := 3) rfl).box
  have S6 := Lib.hid hS6
  clear hS5 hS6 ho hg
  by_cases hw2 : x.width = 2
  ·have hw2' := beq_yes hw2
   have HP := Lib.hid (show putC j x l.1 = (((brk (j + x.width.toNat) (brk j l.1)).set j x).set (j + 1) (spacer x.pen)) from if_pos hw2)
   have HW2 := Lib.hid hw2
   clear hw2
   have hj2 : j + 1 < l.1.length := by have := HW2.out; have := HROW.out; omega
   go_wp2_with fail
   refine (pure_call (cellSpacer_any _ _) S6.out).mono ?_
   rintro e w7 ⟨rfl, hS7⟩
   obtain ⟨W2, hst2, ho2, hg2⟩ := (hS7.own (k := 0) rfl).putAt (k := j + 1) (by rw [List.length_set, brk_length, brk_length]; have := HW2.out; have := HROW.out; omega) (spacer x.pen)
   have S8 := Lib.hid (hS7.cellsUpd (k := 0) rfl ho2 hg2)
   clear ho2 hg2
   clear hS7
   have HF := S8.out.closeAt HL.out
   rw [← HP.out] at HF
   go_wp2_with fail
   go_ret
   exact ⟨rfl, HF.drop2⟩
  ·have hw2' := beq_no hw2
   have HP := Lib.hid (show putC j x l.1 = ((brk (j + x.width.toNat) (brk j l.1)).set j x) by unfold putC; rw [if_neg hw2])
   clear hw2
   have HF := S6.out.closeAt HL.out
   rw [← HP.out] at HF
   go_wp2_with fail
   go_ret
   exact ⟨rfl, HF.drop2⟩
end
end Go.Proofs.YtdndoikgnohkkaaDoor

namespace Go.Proofs.YtdndoikgnohkkaaDoor
open Go.RowKit

def clearC (f t : Nat) (q : Pen) (cs : List Cell) : List Cell := if f < t then wipeC f (t - f) q (brk t (brk f cs)) else cs
theorem clearC_length {f t : Nat} {q : Pen} {cs : List Cell} (h : t ≤ cs.length) : (clearC f t q cs).length = cs.length := by
 unfold clearC
 split
 ·rw [wipeC_length (by rw [brk_length, brk_length]; omega), brk_length, brk_length]
 ·rfl
def shiftR (j k : Nat) (q : Pen) (cs : List Cell) : List Cell := let l := brk (cs.length - k) (brk j cs); l.take j ++ (List.replicate k (blank q) ++ (l.drop j).take (cs.length - k - j))
def shiftL (j k : Nat) (q : Pen) (cs : List Cell) : List Cell := let l := brk (j + k) (brk j cs); l.take j ++ (l.drop (j + k) ++ List.replicate k (blank q))
theorem shiftR_length {j k : Nat} {q : Pen} {cs : List Cell} (h : j + k ≤ cs.length) : (shiftR j k q cs).length = cs.length := by
 simp only [shiftR, List.length_append, List.length_take, List.length_drop, List.length_replicate, brk_length]; omega
theorem shiftL_length {j k : Nat} {q : Pen} {cs : List Cell} (h : j + k ≤ cs.length) : (shiftL j k q cs).length = cs.length := by
 simp only [shiftL, List.length_append, List.length_take, List.length_drop, List.length_replicate, brk_length]; omega
section
variable {w0 w : World} {os : List Ob} {p cols : Nat} {L : List Ln}
set_option maxRecDepth 100000 in
set_option maxHeartbeats 4000000 in
theorem Clear_yes {i f t : Nat} {l : Ln} (q : Pen) (hT : Tabs w0) (hS : Objs w0 w (.grid p 83 cols L :: os)) (hc : 0 < cols) (hcm : cols ≤ 1000) (hl : L[i]? = some l) (hrow : l.1.length = cols) (hq : q.ok = true) (hft : f < t) (ht : t ≤ cols) :
  Calls Tryd.prog 66 #[.pointer (some ⟨p, 0, none⟩), .int .i64 i, .int .i64 f, .int .i64 t, .agg (pv q)] w fun e w' => e = .returned (.int .i64 0) ∧ Objs w0 w' (.grid p 83 cols (L.set i (clearC f t q l.1, l.2)) :: os) := by
 have S := Lib.hid hS
 have hi : i < L.length := (List.getElem?_eq_some_iff.1 hl).1
 have HL := Lib.hid hl
 have HT := Lib.hid hT
 have HQ := Lib.hid hq
 have HROW := Lib.hid hrow
 have hlr : l.1.length ≤ 1000 := by omega
 have hlr2 : cols ≤ l.1.length := by omega
 have hlr3 : l.1.length ≤ cols := by omega
 have HE := Lib.hid (show thereE i L = 0 by unfold thereE; rw [if_pos ⟨by omega, by omega⟩])
 have HP := Lib.hid (show clearC f t q l.1 = wipeC f (t - f) q (brk t (brk f l.1)) from if_pos hft)
 clear hS hT hl hrow hq
 go_enter Tryd.func66, Tryd.ntmps66
 go_wp2_with fail
 refine (there_any i S.out.alloc1 (k := 1) rfl hc).mono ?_
 rw [HE.out]
 rintro e w1 ⟨rfl, hS⟩
 have S1 := Lib.hid hS
 obtain ⟨A0, c0, hB0, -, -⟩ := hS.gridRd (k := 1) rfl
 obtain ⟨hx0, hf0, hz0⟩ := hB0.facts
 obtain ⟨hx9, hf9, hz9, hp9⟩ := (hS.box (k := 0) rfl).pbox
 clear hS S hB0
 generalize w.heap.size = b9 at S1 hx9 hf9 hz9 hp9 ⊢
 go_wp2_with fail
 refine (inked_is HQ.out HT.out S1.out).mono ?_
 rintro e w2 ⟨rfl, hS⟩
 have S2 := Lib.hid hS
 clear hS hx0 hf0 hz0 hx9 hf9 hz9 hp9
 obtain ⟨v, b, hS3⟩ := S2.out.swap.openAt HL.out
 obtain ⟨A, c, rfl, hrd⟩ := hS3.cellsRd (k := 0) rfl
 have hnc : l.1.length ≤ c := hrd.1
 obtain ⟨g, rfl, -, -, -, -⟩ := (hS3.own (k := 0) rfl).head (by omega)
 obtain ⟨gr, cr, rfl, h1, h2, h3, h4, h5, h6, h7⟩ := hS3.linesxRd (k := 1) rfl
 obtain ⟨hx2, hf2, hz2⟩ := (hS3.box (k := 2) rfl).facts
 have hlen2 : L.length ≤ 9223372036854775807 := by unfold maxLen at h2; omega
 have S3 := Lib.hid hS3
 clear hS3 h1 h2 h6 hrd
 go_wp2_with fail
 refine (split_at (c := f) S3.out rfl rfl (by omega) (by omega)).mono ?_
 rintro e w4 ⟨rfl, hS4⟩
 have S4 := Lib.hid hS4
 clear hS4 hx2 hf2 hz2 h4 h5 h7
 go_wp2_with fail
 refine (split_at (c := t) S4.out (by rw [brk_length]) rfl (by rw [brk_length]; omega) (by omega)).mono ?_
 rintro e w5 ⟨rfl, hS5⟩
 have S5 := Lib.hid hS5
 clear hS5
 go_upto_region 13 with (fail)
 refine wp_region_stage (w0 := w0) (os := os) (by kernel_rfl) (by kernel_rfl) (by kernel_rfl) [(0, 5, [], fun vs => .cells (.slice (some ⟨g, 0, none⟩) l.1.length c) (wipeC f (t - f) q (brk t (brk f l.1))))] [[], [], [], [], [3], [0]] [.cells (.slice (some ⟨g, 0, none⟩) l.1.length c) (brk t (brk f l.1)), .linesx (.slice (some ⟨gr, 0, none⟩) L.length cr) L i (.slice (some ⟨g, 0, none⟩) l.1.length c), .box p 83 #[.int .i64 ↑cols, .slice (some ⟨gr, 0, none⟩) L.length cr], .box b9 29 (pv q)] (fun i u => match i with | 0 => u = .slice (some ⟨g, 0, none⟩) l.1.length c | 1 => u = .int .i64 ↑f | 2 => u = .int .i64 ↑t | 3 => u = .slice (some ⟨g, f * 16, none⟩) (t - f) (c - f) | 4 => u = .agg (pv q) | 5 => u = .tuple #[] | _ => True) (fun vs => [.cells (.slice (some ⟨g, 0, none⟩) l.1.length c) (wipeC f (t - f) q (brk t (brk f l.1))), .linesx (.slice (some ⟨gr, 0, none⟩) L.length cr) L i (.slice (some ⟨g, 0, none⟩) l.1.length c), .box p 83 #[.int .i64 ↑cols, .slice (some ⟨gr, 0, none⟩) L.length cr], .box b9 29 (pv q)]) (by kernel_rfl) (fun vs => by rfl) S5.out ?_ ?_
 ·apply sc
  ·intro a w' vs σ hS hl hs hk
   have f12 : a.tmps[12]?.getD undef = .slice (some ⟨g, 0, none⟩) l.1.length c := sof hk
   exact rp (.slice (some ⟨g, 0, none⟩) l.1.length c) (by simp [execOp, Act.eval, f12, go_sem]) hl hs hS
  apply sc
  ·intro a w' vs σ hS hl hs hk
   have f2 : a.tmps[2]?.getD undef = .int .i64 ↑f := sof hk
   exact rp (.int .i64 ↑f) (by simp [execOp, Act.eval, f2, go_sem]) hl hs hS
  apply sc
  ·intro a w' vs σ hS hl hs hk
   have f3 : a.tmps[3]?.getD undef = .int .i64 ↑t := sof hk
   exact rp (.int .i64 ↑t) (by simp [execOp, Act.eval, f3, go_sem]) hl hs hS
  apply sc
  ·intro a w' vs σ hS hl hs hk
   have f58 : a.tmps[58]?.getD undef = .slice (some ⟨g, 0, none⟩) l.1.length c := sf hk 0
   have f59 : a.tmps[59]?.getD undef = .int .i64 ↑f := sf hk 1
   have f60 : a.tmps[60]?.getD undef = .int .i64 ↑t := sf hk 2
   exact rs_run (wanted_none rfl) (exec_slice rfl (by simp [Act.eval, f58, f59, f60]) (by simp [Act.eval, f58, f59, f60]; try rfl) (by simp [Act.eval, f58, f59, f60]; try rfl) (run_mid w' g l.1.length c f t (by omega) (by omega) (by omega) (by omega) (by omega))) (sp_same (by kernel_rfl) hl hs hS (show (.slice (some ⟨g, f * 16, none⟩) (t - f) (c - f) : Value) = _ from rfl))
  apply sc
  ·intro a w' vs σ hS hl hs hk
   have f9 : a.tmps[9]?.getD undef = .pointer (some ⟨b9, 0, none⟩) := sof hk
   have hx := (hS.box (sg (hs 3 (by decide)))).penAt
   exact rp (.agg (pv q)) (by simp [execOp, Act.eval, f9, go_sem, hx]) hl hs hS
  apply sc
  ·intro a w' vs σ hS hl hs hk
   have e61 : a.tmps.getD 61 undef = .slice (some ⟨g, f * 16, none⟩) (t - f) (c - f) := svv hk 3
   have e62 : a.tmps.getD 62 undef = .agg (pv q) := svv hk 4
   have h0 : σ[0]? = some (.cells (.slice (some ⟨g, 0, none⟩) l.1.length c) (brk t (brk f l.1))) := hs 0 (by decide)
   exact ro_call (f := 85) (wanted_none rfl) rfl (by simp only [List.map_toArray, List.map_cons, List.map_nil, Act.eval, e61, e62] <;> rfl) (fun _ _ => by kernel_rfl) ((front_call hS (sg h0) (fun os1 h => wipe_front g l.1.length c (f) (t - f) (c - f) (brk t (brk f l.1)) q w0 w' os1 h (by rw [brk_length, brk_length]; omega) (by omega) (by rw [brk_length, brk_length]; omega))).mono fun e w2 ⟨h1, h2⟩ => ⟨_, h1, sp_set 0 _ (by kernel_rfl) (by simp) (by decide) hl hs (by rfl) h2 rfl, trivial⟩)
  exact SSteps.nil
 ·intro vs w' hS hv
  have q0 : vs 0 = _ := hv 0 (by decide)
  have q1 : vs 1 = _ := hv 1 (by decide)
  have q2 : vs 2 = _ := hv 2 (by decide)
  have q3 : vs 3 = _ := hv 3 (by decide)
  have q4 : vs 4 = _ := hv 4 (by decide)
  have q5 : vs 5 = _ := hv 5 (by decide)
  have S2 := Lib.hid hS
  simp only [putL, Act.put, Nat.zero_add, Nat.reduceAdd, List.setIfInBounds_toArray, List.set_cons_succ, List.set_cons_zero, q0, q1, q2, q3, q4, q5]
  clear hS hv q0 q1 q2 q3 q4 q5
  have HF := (show Objs w0 w' (_ :: _ :: _ :: _ :: os) from S2.out).closeAt HL.out
  rw [← HP.out] at HF
  go_wp2_with fail
  go_ret
  exact ⟨rfl, HF.drop2⟩
set_option maxRecDepth 100000 in
set_option maxHeartbeats 1000000 in
theorem Clear_none {row f t : Int} (q : Pen) (hT : Tabs w0) (hS : Objs w0 w (.grid p 83 cols L :: os)) (hc : 0 < cols) (hcm : cols ≤ 1000) (hin : 0 ≤ row ∧ row < L.length) (hft : 0 ≤ f ∧ f = t ∧ t ≤ cols) (hq : q.ok = true) :
  Calls Tryd.prog 66 #[.pointer (some ⟨p, 0, none⟩), .int .i64 row, .int .i64 f, .int .i64 t, .agg (pv q)] w fun e w' => e = .returned (.int .i64 0) ∧ Objs w0 w' (.grid p 83 cols L :: os) := by
 have S := Lib.hid hS
 have HT := Lib.hid hT
 have HE := Lib.hid (show thereE row L = 0 by unfold thereE; rw [if_pos hin])
 clear hin
 have HQ := Lib.hid hq
 obtain ⟨hf, rfl, hft⟩ := hft
 clear hq
 clear hS hT
 go_enter Tryd.func66, Tryd.ntmps66
 go_wp2_with fail
 refine (there_any row S.out.alloc1 (k := 1) rfl hc).mono ?_
 rw [HE.out]
 rintro e w1 ⟨rfl, hS⟩
 have S1 := Lib.hid hS
 obtain ⟨A0, c0, hB0, -, -⟩ := hS.gridRd (k := 1) rfl
 obtain ⟨hx0, hf0, hz0⟩ := hB0.facts
 obtain ⟨hx9, hf9, hz9, hp9⟩ := (hS.box (k := 0) rfl).pbox
 clear hS S hB0
 generalize w.heap.size = b9 at S1 hx9 hf9 hz9 hp9 ⊢
 go_wp2_with fail
 refine (inked_is HQ.out HT.out S1.out).mono ?_
 rintro e w2 ⟨rfl, hS⟩
 have S2 := Lib.hid hS
 clear hS
 go_wp2_with fail
 go_ret
 exact ⟨rfl, S2.out.tail⟩
end
end Go.Proofs.YtdndoikgnohkkaaDoor

namespace Go.Proofs.YtdndoikgnohkkaaDoor
open Go.RowKit

@[go_sem] theorem run_fieldL (A : Option Addr) (n c : Nat) (b : Bool) (w : World) : (Instr.field 86 (.agg #[.slice A n c, .bool b]) 0).run Tryd.prog w = .ok (.slice A n c) w := by kernel_rfl
section
variable {w0 w : World} {os : List Ob} {p cols : Nat} {L : List Ln}
end
end Go.Proofs.YtdndoikgnohkkaaDoor

namespace Go.Proofs.YtdndoikgnohkkaaDoor
open Go.RowKit

section
variable {w0 w : World} {os : List Ob} {p cols : Nat} {L : List Ln}
set_option maxHeartbeats 1000000 in
theorem SetSoft_yes {i : Nat} {l : Ln} (s : Bool) (hS : Objs w0 w (.grid p 83 cols L :: os)) (hc : 0 < cols) (hl : L[i]? = some l) (hlen : L.length ≤ 1000000) :
  Calls Tryd.prog 26 #[.pointer (some ⟨p, 0, none⟩), .int .i64 i, .bool s] w fun e w' => e = .returned (.int .i64 0) ∧ Objs w0 w' (.grid p 83 cols (L.set i (l.1, s)) :: os) := by
 have S := Lib.hid hS
 have hi : i < L.length := (List.getElem?_eq_some_iff.1 hl).1
 have HL := Lib.hid hl
 have HE := Lib.hid (show thereE i L = 0 by unfold thereE; rw [if_pos ⟨by omega, by omega⟩])
 clear hS hl
 go_enter Tryd.func26, Tryd.ntmps26
 go_wp2_with fail
 refine (there_any i S.out (k := 0) rfl hc).mono ?_
 rw [HE.out]
 rintro e w1 ⟨rfl, hS⟩
 obtain ⟨v, hS1⟩ := hS.openGrid (k := 0) rfl
 obtain ⟨A, c, rfl, hcm, hrd⟩ := hS1.linesRd (k := 0) rfl
 obtain ⟨F, bs, hF, -⟩ := hS1.get (k := 0) rfl
 obtain ⟨A2, c2, e2, -, -, -, h4⟩ := hF.form
 simp only [Value.slice.injEq, true_and] at e2
 obtain ⟨rfl, rfl⟩ := e2
 obtain ⟨g, rfl, hz, -, hso, hfz⟩ := h4 (by omega)
 have hso2 := hso i l HL.out
 obtain ⟨hx0, hf0, hz0⟩ := (hS1.box (k := 1) rfl).facts
 have S2 := Lib.hid (((hS1.storeSoft (k := 0) (s := s) rfl HL.out) : Objs w0 _ (.lines _ _ :: _ :: os)).closeGrid (k := 0) rfl)
 clear hS hS1 S hcm hrd hF h4 hso
 go_wp2_with fail
 go_ret
 exact ⟨rfl, S2.out⟩
end
end Go.Proofs.YtdndoikgnohkkaaDoor

namespace Go.Proofs.YtdndoikgnohkkaaDoor
open Go.RowKit

def sndV : Value → Value
 | .agg a => a.getD 1 undef
 | v => v
section
variable {w0 w : World} {os : List Ob} {p cols : Nat} {L : List Ln}
set_option maxRecDepth 100000 in
set_option maxHeartbeats 2000000 in
theorem Copy_front (hS : Objs w0 w (.grid p 83 cols L :: os)) (hc : 0 < cols) (hn : ∀ l ∈ L, l.1.length ≤ 1000000) (hL : L.length ≤ 1000000) :
  Calls Tryd.prog 39 #[.pointer (some ⟨p, 0, none⟩)] w fun e w' => ∃ p2, e = .returned (.pointer (some ⟨p2, 0, none⟩)) ∧ Objs w0 w' (.grid p2 83 cols L :: .grid p 83 cols L :: os) := by
 have S := Lib.hid hS
 have HN := Lib.hid hn
 clear hS hn
 go_enter Tryd.func39, Tryd.ntmps39
 go_wp2_with fail
 refine (none_no S.out (k := 0) rfl hc).mono ?_
 rintro e w1 ⟨rfl, hS⟩
 have S1 := Lib.hid hS
 clear hS S
 go_upto_region 3 with (fail)
 refine wp_region_stage (w0 := w0) (os := os) (by kernel_rfl) (by kernel_rfl) (by kernel_rfl) [(0, 5, [5], fun vs => .lines (vs 5) L), (0, 6, [6], fun vs => .lines (sndV (vs 6)) L), (1, 7, [6, 7], fun vs => .box (blkOf (vs 7)) 83 #[.int .i64 ↑cols, sndV (vs 6)]), (1, 8, [6, 8], fun vs => .box (blkOf (vs 8)) 83 #[.int .i64 ↑cols, sndV (vs 6)])] [[], [], [], [2], [], [0, 2], [0], [1], [1]] [.none, .none, .grid p 83 ↑cols L] (fun i u => match i with | 0 => u = .pointer (some ⟨p, 0, none⟩) | 1 => u = .pointer (some ⟨p, 0, none⟩) | 2 => u = .pointer (some ⟨p, 0, none⟩) | 3 => u = .int .i64 ↑cols | 4 => u = .pointer (some ⟨p, 0, none⟩) | 5 => ∃ A n c, u = .slice A n c | 6 => ∃ A n c, u = .agg #[.int .i64 ↑cols, .slice A n c] | 7 => ∃ g, u = .pointer (some ⟨g, 0, none⟩) | 8 => ∃ g, u = .pointer (some ⟨g, 0, none⟩) | _ => True) (fun vs => [.lines (sndV (vs 6)) L, .box (blkOf (vs 8)) 83 #[.int .i64 ↑cols, sndV (vs 6)], .grid p 83 ↑cols L]) (by kernel_rfl) (fun vs => by rfl) S1.out.pad.pad ?_ ?_
 ·apply sc
  ·intro a w' vs σ hS hl hs hk
   have f0 : a.tmps[0]?.getD undef = .pointer (some ⟨p, 0, none⟩) := sof hk
   exact rp (pt p 0) (by simp [execOp, Act.eval, f0, go_sem]) hl hs hS
  apply sc
  ·intro a w' vs σ hS hl hs hk
   have f5 : a.tmps[5]?.getD undef = .pointer (some ⟨p, 0, none⟩) := sf hk 0
   exact rp (pt p 0) (by simp [execOp, Act.eval, f5, go_sem]) hl hs hS
  apply sc
  ·intro a w' vs σ hS hl hs hk
   have f6 : a.tmps[6]?.getD undef = .pointer (some ⟨p, 0, none⟩) := sf hk 1
   exact rp (pt p 0) (by simp [execOp, Act.eval, f6, go_sem]) hl hs hS
  apply sc
  ·intro a w' vs σ hS hl hs hk
   have f7 : a.tmps[7]?.getD undef = .pointer (some ⟨p, 0, none⟩) := sf hk 2
   obtain ⟨A1, c1, hB1, -, -⟩ := hS.gridRd (sg (hs 2 (by decide)))
   have hx := hB1.cell
   exact rp (.int .i64 ↑cols) (by simp [execOp, Act.eval, f7, go_sem, hx]) hl hs hS
  apply sc
  ·intro a w' vs σ hS hl hs hk
   have f0 : a.tmps[0]?.getD undef = .pointer (some ⟨p, 0, none⟩) := sof hk
   exact rp (pt p 0) (by simp [execOp, Act.eval, f0, go_sem]) hl hs hS
  apply sc
  ·intro a w' vs σ hS hl hs hk
   have e9 : a.tmps.getD 9 undef = .pointer (some ⟨p, 0, none⟩) := svv hk 4
   have h0 : σ[0]? = some .none := hs 0 (by decide)
   have h2 : σ[2]? = some (.grid p 83 ↑cols L) := hs 2 (by decide)
   exact ro_call (f := 40) (wanted_none rfl) rfl (by simp only [List.map_toArray, List.map_cons, List.map_nil, Act.eval, e9] <;> rfl) (fun _ _ => by kernel_rfl) ((Lines_any hS (sg h2) hc HN.out hL).mono fun e w2 ⟨x, h1, h2⟩ => ⟨_, h1, sp_set 0 (.lines x L) (by kernel_rfl) (by simp) (by decide) hl hs (by rfl) (h2.place (sg h0)) (by obtain ⟨A, c, e, -⟩ := h2.linesRd (k := 0) rfl; exact ⟨A, _, c, e⟩), trivial⟩)
  apply sc
  ·intro a w' vs σ hS hl hs hk
   have f8 : a.tmps[8]?.getD undef = .int .i64 ↑cols := sf hk 3
   have e10 : a.tmps.getD 10 undef = vs 5 := sk_val hk 5 (by kernel_rfl) rfl rfl
   have p10 : (fun u : Value => ∃ A n c, u = .slice A n c) (vs 5) := (hk.1 5 (by kernel_rfl)).1
   obtain ⟨A5, n5, c5, q5⟩ := p10
   have e9 := e10.trans q5
   have f9 := gd e9
   have h0 : σ[0]? = some (.lines (vs 5) L) := hs 0 (by decide)
   rw [q5] at h0
   have hSS : Objs w0 w' ((σ ++ os).set 0 (.lines (.slice A5 n5 c5) L)) := by rw [set_self (sg h0)]; exact hS
   exact rs_run (v' := .agg #[.int .i64 ↑cols, .slice A5 n5 c5]) (w' := w') (wanted_none rfl) (by simp [execOp, Act.eval, f8, e9, f9, go_sem]) (sp_set 0 (.lines (.slice A5 n5 c5) L) (by kernel_rfl) (by simp) (by decide) hl hs (by rfl) hSS ⟨A5, n5, c5, rfl⟩)
  apply sc
  ·intro a w' vs σ hS hl hs hk
   have e11 : a.tmps.getD 11 undef = vs 6 := sk_val hk 6 (by kernel_rfl) rfl rfl
   have p11 : (fun u : Value => ∃ A n c, u = .agg #[.int .i64 ↑cols, .slice A n c]) (vs 6) := (hk.1 6 (by kernel_rfl)).1
   obtain ⟨A6, n6, c6, q6⟩ := p11
   have e9 := e11.trans q6
   have f9 := gd e9
   have h1 : σ[1]? = some .none := hs 1 (by decide)
   exact rs_run (v' := .pointer (some ⟨w'.heap.size, 0, none⟩)) (w' := w'.alloc (.cells #[.int .i64 ↑cols, .slice A6 n6 c6] 83)) (wanted_none rfl) (by simp [execOp, Act.eval, e9, f9, go_sem]) (sp_set 1 (.box w'.heap.size 83 #[.int .i64 ↑cols, .slice A6 n6 c6]) (by kernel_rfl) (by simp) (by decide) hl hs (by show Ob.box (blkOf (.pointer (some ⟨w'.heap.size, 0, none⟩))) 83 #[.int .i64 ↑cols, sndV (vs 6)] = _; rw [q6]; rfl) (hS.alloc1.place (sg h1)) ⟨_, rfl⟩)
  apply sc
  ·intro a w' vs σ hS hl hs hk
   have e12 : a.tmps.getD 12 undef = vs 7 := sk_val hk 7 (by kernel_rfl) rfl rfl
   have p12 : (fun u : Value => ∃ g, u = .pointer (some ⟨g, 0, none⟩)) (vs 7) := (hk.1 7 (by kernel_rfl)).1
   obtain ⟨g7, q7⟩ := p12
   have e9 := e12.trans q7
   have f9 := gd e9
   have h1 : σ[1]? = some (.box (blkOf (vs 7)) 83 #[.int .i64 ↑cols, sndV (vs 6)]) := hs 1 (by decide)
   rw [q7, show blkOf (.pointer (some ⟨g7, 0, none⟩)) = g7 from rfl] at h1
   have hSS : Objs w0 w' ((σ ++ os).set 1 (.box g7 83 #[.int .i64 ↑cols, sndV (vs 6)])) := by rw [set_self (sg h1)]; exact hS
   exact rs_run (v' := .pointer (some ⟨g7, 0, none⟩)) (w' := w') (wanted_none rfl) (by simp [execOp, Act.eval, e9, f9, go_sem]) (sp_set 1 (.box g7 83 #[.int .i64 ↑cols, sndV (vs 6)]) (by kernel_rfl) (by simp) (by decide) hl hs (by rfl) hSS ⟨g7, rfl⟩)
  exact SSteps.nil
 ·intro vs w' hS hv
  have q0 : vs 0 = _ := hv 0 (by decide)
  have q1 : vs 1 = _ := hv 1 (by decide)
  have q2 : vs 2 = _ := hv 2 (by decide)
  have q3 : vs 3 = _ := hv 3 (by decide)
  have q4 : vs 4 = _ := hv 4 (by decide)
  obtain ⟨g8, q8⟩ := (show ∃ g, vs 8 = .pointer (some ⟨g, 0, none⟩) from hv 8 (by decide))
  rw [q8] at hS
  have S2 := Lib.hid hS
  simp only [putL, Act.put, Nat.zero_add, Nat.reduceAdd, List.setIfInBounds_toArray, List.set_cons_succ, List.set_cons_zero, q0, q1, q2, q3, q4]
  clear hS hv q0 q1 q2 q3 q4
  have HF := (show Objs w0 w' (.lines _ L :: .box g8 83 _ :: _ :: os) from S2.out).closeGrid (k := 0) rfl
  clear S2
  simp only [q8]
  go_wp2_with fail
  go_ret
  exact ⟨g8, rfl, HF⟩
end
end Go.Proofs.YtdndoikgnohkkaaDoor

namespace Go.Proofs.YtdndoikgnohkkaaDoor
open Go.RowKit

theorem tt_of {f : FuncId} {args : Array Value} {w : World} {b : Bool} (hc : Calls Tryd.prog f args w fun e w' => e = .returned (.bool b) ∧ Below w.heap.size w w') (h : b = true) : Calls Tryd.prog f args w fun e w' => e = .returned (.bool true) ∧ Below w.heap.size w w' := h ▸ hc
theorem ff_of {f : FuncId} {args : Array Value} {w : World} {b : Bool} (hc : Calls Tryd.prog f args w fun e w' => e = .returned (.bool b) ∧ Below w.heap.size w w') (h : b = false) : Calls Tryd.prog f args w fun e w' => e = .returned (.bool false) ∧ Below w.heap.size w w' := h ▸ hc
theorem upto_eqG {α : Type} {xs ys : List α} (hl : xs.length = ys.length) (h : ∀ k, k < xs.length → xs[k]? = ys[k]?) : xs = ys := by
 apply List.ext_getElem?
 intro k
 rcases Nat.lt_or_ge k xs.length with hk | hk
 ·exact h k hk
 ·rw [List.getElem?_eq_none hk, List.getElem?_eq_none (by omega)]
set_option maxHeartbeats 2000000 in
theorem r14SameLine_any (A B : Option Addr) (ca cb : Nat) (xs ys : List Cell) (s t : Bool) (w : World) (ha : RdC w A ca xs) (hb : RdC w B cb ys) (hn : xs.length ≤ 1000000) (hm : ys.length ≤ 1000000) :
  Calls Tryd.prog 75 #[.agg #[.slice A xs.length ca, .bool s], .agg #[.slice B ys.length cb, .bool t]] w fun e w' => e = .returned (.bool (eqL xs s ys t)) ∧ Below w.heap.size w w' := by
 have HA := Lib.hid ha
 have HB := Lib.hid hb
 clear ha hb
 have HD := Lib.hid (lineEq_dec xs ys s t)
 by_cases hst : s = t
 case neg =>
  have h' : (s == t) = false := by simpa using hst
  go_enter Tryd.func75, Tryd.ntmps75
  go_wp2_with fail
  go_ret
  exact ⟨by rw [HD.out]; simp [hst], (belA _ _).trans ((belA _ _).mono (by simp))⟩
 subst hst
 by_cases hl : xs.length = ys.length
 case neg =>
  have HE := Lib.hid (show decide (xs = ys) = false by simp; intro h; exact hl (by rw [h]))
  have hl' : ((xs.length : Int) == (ys.length : Int)) = false := by rw [beq_eq_false_iff_ne]; omega
  clear hl
  go_enter Tryd.func75, Tryd.ntmps75
  go_wp2_with fail
  go_ret
  exact ⟨by rw [HD.out, HE.out]; simp, (belA _ _).trans ((belA _ _).mono (by simp))⟩
 have hl' : ((xs.length : Int) == (ys.length : Int)) = true := by simp; omega
 have HL := Lib.hid hl
 clear hl
 go_enter Tryd.func75, Tryd.ntmps75
 go_wp2_with fail
 go_loopw [5] (fun i wr => ∃ k : Nat, k ≤ xs.length ∧ i = .int .i64 k ∧ (∀ j, j < k → xs[j]? = ys[j]?) ∧ Blk wr w.heap.size 86 #[.slice A xs.length ca, .bool s] ∧ Blk wr (w.heap.size + 1) 86 #[.slice B ys.length cb, .bool s] ∧ Below w.heap.size w wr) (fun i _ => xs.length - (intOf i).toNat)
 case atStart => exact ⟨0, by omega, rfl, fun j hj => by omega, (Blk.new _ _ _).alloc _, by have := Blk.new (w.alloc (.cells #[.slice A xs.length ca, .bool s] 86)) 86 #[.slice B ys.length cb, .bool s]; simpa using this, (belA _ _).trans ((belA _ _).mono (by simp))⟩
 case round =>
  obtain ⟨k, hk, rfl, hj, hk1, hk2, hb⟩ := hrel
  have HJ := Lib.hid hj
  have HW := Lib.hid hb
  have K1 := Lib.hid hk1
  have K2 := Lib.hid hk2
  obtain ⟨hx1, hf1, hz1⟩ := hk1.facts
  obtain ⟨hx2, hf2, hz2⟩ := hk2.facts
  clear hj hb hk1 hk2
  by_cases hlt : k < xs.length
  ·have hlt2 : k < ys.length := by have := HL.out; omega
   obtain ⟨b1, o1, rfl, hz3, hr1⟩ := (HA.out.bel HW.out).at_ hlt
   obtain ⟨b2, o2, rfl, hz4, hr2⟩ := (HB.out.bel HW.out).at_ hlt2
   have hc1 := elem_cell hr1 hlt
   have hc2 := elem_cell hr2 hlt2
   clear hr1 hr2
   by_cases he : xs[k] = ys[k]
   ·have he' : decide (xs[k] = ys[k]) = true := by simpa using he
    have HE := Lib.hid he
    clear he
    go_wp2_with fail
    refine wp_region_below (by kernel_rfl) (by kernel_rfl) ?_
    repeat (go_big_quiet_step (fail))
    refine wpQuiet_nil ?_
    intro w2 hb2
    have K12 := Lib.hid (K1.out.bel hb2)
    have K22 := Lib.hid (K2.out.bel hb2)
    clear hx1 hf1 hz1 hx2 hf2 hz2 hc1 hc2
    go_wp2_with fail
    go_roundw
    case rel => exact ⟨k + 1, by omega, by go_num, upto_succ HJ.out (by rw [List.getElem?_eq_getElem hlt, List.getElem?_eq_getElem hlt2, HE.out]), K12.out, K22.out, HW.out.trans (hb2.mono HW.out.size)⟩
    case measure => simp [intOf]; omega
   ·have he' : decide (xs[k] = ys[k]) = false := by simpa using he
    have HE := Lib.hid (show decide (xs = ys) = false by simp; rintro rfl; exact he rfl)
    clear he
    go_wp2_with fail
    refine wp_region_below (by kernel_rfl) (by kernel_rfl) ?_
    repeat (go_big_quiet_step (fail))
    refine wpQuiet_nil ?_
    intro w2 hb2
    clear hx1 hf1 hz1 hx2 hf2 hz2 hc1 hc2
    go_wp2_with fail
    go_ret
    exact ⟨by rw [HD.out, HE.out]; simp, HW.out.trans (hb2.mono HW.out.size)⟩
  ·have HE := Lib.hid (show decide (xs = ys) = true by simp; exact upto_eq HL.out (fun j hj => HJ.out j (by omega)))
   go_wp2_with fail
   go_ret
   exact ⟨by rw [HD.out, HE.out]; simp, HW.out⟩
theorem eqL_line (a b : Ln) : eqL a.1 a.2 b.1 b.2 = decide (a = b) := rfl
set_option maxHeartbeats 2000000 in
theorem r14SameLines_any (A B : Option Addr) (ca cb : Nat) (xs ys : List Ln) (w : World) (ha : RdL w A ca xs) (hb : RdL w B cb ys) (hn : xs.length ≤ 1000000) (hm : ys.length ≤ 1000000) (hx : ∀ l ∈ xs, l.1.length ≤ 1000000) (hy : ∀ l ∈ ys, l.1.length ≤ 1000000) :
  Calls Tryd.prog 50 #[.slice A xs.length ca, .slice B ys.length cb] w fun e w' => e = .returned (.bool (decide (xs = ys))) ∧ Below w.heap.size w w' := by
 have HA := Lib.hid ha
 have HB := Lib.hid hb
 have HX := Lib.hid hx
 have HY := Lib.hid hy
 clear ha hb hx hy
 by_cases hl : xs.length = ys.length
 case neg =>
  have HE := Lib.hid (show decide (xs = ys) = false by simp; intro h; exact hl (by rw [h]))
  have hl' : ((xs.length : Int) == (ys.length : Int)) = false := by rw [beq_eq_false_iff_ne]; omega
  clear hl
  go_enter Tryd.func50, Tryd.ntmps50
  go_wp2_with fail
  go_ret
  exact ⟨by rw [HE.out]; rfl, Below.refl _ _⟩
 have hl' : ((xs.length : Int) == (ys.length : Int)) = true := by simp; omega
 have HL := Lib.hid hl
 clear hl
 go_enter Tryd.func50, Tryd.ntmps50
 go_wp2_with fail
 go_loopw [5] (fun i wr => ∃ k : Nat, k ≤ xs.length ∧ i = .int .i64 k ∧ (∀ j, j < k → xs[j]? = ys[j]?) ∧ Below w.heap.size w wr) (fun i _ => xs.length - (intOf i).toNat)
 case atStart => exact ⟨0, by omega, rfl, fun j hj => by omega, Below.refl _ _⟩
 case round =>
  obtain ⟨k, hk, rfl, hj, hb⟩ := hrel
  have HJ := Lib.hid hj
  have HW := Lib.hid hb
  clear hj hb
  by_cases hlt : k < xs.length
  ·have hlt2 : k < ys.length := by have := HL.out; omega
   obtain ⟨b1, o1, A1, c1, rfl, hz1, hc1, hc2, hr1⟩ := (HA.out.bel HW.out).at_ (show xs[k]? = some xs[k] by simp [hlt])
   obtain ⟨b2, o2, A2, c2, rfl, hz2, hc3, hc4, hr2⟩ := (HB.out.bel HW.out).at_ (show ys[k]? = some ys[k] by simp [hlt2])
   have HR1 := Lib.hid hr1
   have HR2 := Lib.hid hr2
   clear hr1 hr2
   have HN1 := Lib.hid (HX.out _ (List.getElem_mem hlt))
   have HN2 := Lib.hid (HY.out _ (List.getElem_mem hlt2))
   by_cases he : xs[k] = ys[k]
   ·have HE := Lib.hid he
    have HQ := Lib.hid (show eqL xs[k].1 xs[k].2 ys[k].1 ys[k].2 = true by rw [eqL_line]; simpa using he)
    clear he
    go_wp2_with fail
    refine wp_region_below (by kernel_rfl) (by kernel_rfl) ?_
    repeat (go_big_quiet_step ((go_at_call 75; exact quiet_below (tt_of (r14SameLine_any A1 A2 c1 c2 xs[k].1 ys[k].1 xs[k].2 ys[k].2 _ (HR1.out.bel (below_plus _ _)) (HR2.out.bel (below_plus _ _)) HN1.out HN2.out) HQ.out))))
    refine wpQuiet_nil ?_
    intro w2 hb2
    clear hc1 hc2 hc3 hc4
    go_wp2_with fail
    go_roundw
    case rel => exact ⟨k + 1, by omega, by go_num, upto_succ HJ.out (by rw [List.getElem?_eq_getElem hlt, List.getElem?_eq_getElem hlt2, HE.out]), HW.out.trans (hb2.mono HW.out.size)⟩
    case measure => simp [intOf]; omega
   ·have HE := Lib.hid (show decide (xs = ys) = false by simp; rintro rfl; exact he rfl)
    have HQ := Lib.hid (show eqL xs[k].1 xs[k].2 ys[k].1 ys[k].2 = false by rw [eqL_line]; simpa using he)
    clear he
    go_wp2_with fail
    refine wp_region_below (by kernel_rfl) (by kernel_rfl) ?_
    repeat (go_big_quiet_step ((go_at_call 75; exact quiet_below (ff_of (r14SameLine_any A1 A2 c1 c2 xs[k].1 ys[k].1 xs[k].2 ys[k].2 _ (HR1.out.bel (below_plus _ _)) (HR2.out.bel (below_plus _ _)) HN1.out HN2.out) HQ.out))))
    refine wpQuiet_nil ?_
    intro w2 hb2
    clear hc1 hc2 hc3 hc4
    go_wp2_with fail
    go_ret
    exact ⟨by rw [HE.out]; rfl, HW.out.trans (hb2.mono HW.out.size)⟩
  ·have HE := Lib.hid (show decide (xs = ys) = true by simp; exact upto_eqG HL.out (fun j hj => HJ.out j (by omega)))
   go_wp2_with fail
   go_ret
   exact ⟨by rw [HE.out]; rfl, HW.out⟩
end Go.Proofs.YtdndoikgnohkkaaDoor

namespace Go.Proofs.YtdndoikgnohkkaaDoor
open Go.RowKit

end Go.Proofs.YtdndoikgnohkkaaDoor

namespace Go.Proofs.YtdndoikgnohkkaaDoor
open Go.RowKit

section
variable {w0 w : World} {os : List Ob}
end
end Go.Proofs.YtdndoikgnohkkaaDoor

namespace Go.Proofs.YtdndoikgnohkkaaDoor
open Go.RowKit

def rowMod (i : Nat) (f : List Cell → List Cell) (L : List Ln) : List Ln := match L[i]? with | some l => L.set i (f l.1, l.2) | none => L
def softMod (i : Nat) (s : Bool) (L : List Ln) : List Ln := match L[i]? with | some l => L.set i (l.1, s) | none => L
theorem rowMod_some {i : Nat} {f : List Cell → List Cell} {L : List Ln} {l : Ln} (h : L[i]? = some l) : rowMod i f L = L.set i (f l.1, l.2) := by unfold rowMod; rw [h]
theorem softMod_some {i : Nat} {s : Bool} {L : List Ln} {l : Ln} (h : L[i]? = some l) : softMod i s L = L.set i (l.1, s) := by unfold softMod; rw [h]
theorem rowMod_length (i : Nat) (f : List Cell → List Cell) (L : List Ln) : (rowMod i f L).length = L.length := by unfold rowMod; split <;> simp
theorem softMod_length (i : Nat) (s : Bool) (L : List Ln) : (softMod i s L).length = L.length := by unfold softMod; split <;> simp
theorem rect_set {n i : Nat} {L : List Ln} {l : Ln} (h : Rect n L) (hl : l.1.length = n) : Rect n (L.set i l) := fun x hx => by
 rcases List.mem_or_eq_of_mem_set hx with h1 | rfl
 ·exact h x h1
 ·exact hl
theorem Rect.rowMod {n : Nat} {L : List Ln} (h : Rect n L) (i : Nat) {f : List Cell → List Cell} (hf : ∀ cs : List Cell, cs.length = n → (f cs).length = n) : Rect n (rowMod i f L) := by
 unfold Proofs.YtdndoikgnohkkaaDoor.rowMod
 split
 ·rename_i l hl; exact rect_set h (hf _ (h.at_ hl))
 ·exact h
theorem Rect.softMod {n : Nat} {L : List Ln} (h : Rect n L) (i : Nat) (s : Bool) : Rect n (softMod i s L) := by
 unfold Proofs.YtdndoikgnohkkaaDoor.softMod
 split
 ·rename_i l hl; exact rect_set h (show l.1.length = n from h.at_ hl)
 ·exact h
theorem Rect.mill {n : Nat} {L : List Ln} (h : Rect n L) (hn : n ≤ 1000) : ∀ l ∈ L, l.1.length ≤ 1000000 := fun l hl => by rw [h l hl]; omega
theorem get_of {α : Type} {L : List α} {i : Nat} (h : i < L.length) : ∃ l, L[i]? = some l := ⟨L[i], by simp [h]⟩
section
variable {w0 w : World} {os : List Ob} {k p cols : Nat} {L : List Ln}
theorem PutG {i j : Nat} (x : Cell) (hT : Tabs w0) (hS : Objs w0 w os) (hk : os[k]? = some (.grid p 83 cols L)) (hcm : cols ≤ 1000) (hR : Rect cols L) (hi : i < L.length) (hv : x.ok = true) (hw : ¬ x.width = 0) (hfit : (j : Int) + x.width ≤ cols) :
  Calls Tryd.prog 44 #[.pointer (some ⟨p, 0, none⟩), .int .i64 i, .int .i64 j, .agg (cv x)] w fun e w' => e = .returned (.int .i64 0) ∧ Objs w0 w' (os.set k (.grid p 83 cols (rowMod i (putC j x) L))) := by
 obtain ⟨l, hl⟩ := get_of hi
 rw [rowMod_some hl]
 have hxw : 1 ≤ x.width := by rcases ok_w12 hv hw with h | h <;> omega
 exact front_call hS hk (fun os1 h => Put_yes x hT h (by omega) hcm hl (hR.at_ hl) hv hw hfit)
theorem SetSoftG {i : Nat} (s : Bool) (hS : Objs w0 w os) (hk : os[k]? = some (.grid p 83 cols L)) (hc : 0 < cols) (hi : i < L.length) (hlen : L.length ≤ 1000000) :
  Calls Tryd.prog 26 #[.pointer (some ⟨p, 0, none⟩), .int .i64 i, .bool s] w fun e w' => e = .returned (.int .i64 0) ∧ Objs w0 w' (os.set k (.grid p 83 cols (softMod i s L))) := by
 obtain ⟨l, hl⟩ := get_of hi
 rw [softMod_some hl]
 exact front_call hS hk (fun os1 h => SetSoft_yes s h hc hl hlen)
theorem ClearG {i f t : Nat} (q : Pen) (hT : Tabs w0) (hS : Objs w0 w os) (hk : os[k]? = some (.grid p 83 cols L)) (hc : 0 < cols) (hcm : cols ≤ 1000) (hR : Rect cols L) (hi : i < L.length) (hq : q.ok = true) (hft : f ≤ t) (ht : t ≤ cols) :
  Calls Tryd.prog 66 #[.pointer (some ⟨p, 0, none⟩), .int .i64 i, .int .i64 f, .int .i64 t, .agg (pv q)] w fun e w' => e = .returned (.int .i64 0) ∧ Objs w0 w' (os.set k (.grid p 83 cols (rowMod i (clearC f t q) L))) := by
 obtain ⟨l, hl⟩ := get_of hi
 rw [rowMod_some hl]
 rcases Nat.lt_or_ge f t with h1 | h1
 ·exact front_call hS hk (fun os1 h => Clear_yes q hT h hc hcm hl (hR.at_ hl) hq h1 ht)
 ·have e : clearC f t q l.1 = l.1 := by unfold clearC; rw [if_neg (by omega)]
  rw [e, set_self hl]
  exact front_call hS hk (fun os1 h => Clear_none q hT h hc hcm (by omega) (by omega) hq)
theorem CopyG (hS : Objs w0 w os) (hk : os[k]? = some (.grid p 83 cols L)) (hc : 0 < cols) (hcm : cols ≤ 1000) (hR : Rect cols L) (hL : L.length ≤ 1000000) :
  Calls Tryd.prog 39 #[.pointer (some ⟨p, 0, none⟩)] w fun e w' => ∃ p2, e = .returned (.pointer (some ⟨p2, 0, none⟩)) ∧ Objs w0 w' (.grid p2 83 cols L :: os) := by
 have hS2 := hS.lift hk
 refine (Copy_front hS2 hc (hR.mill hcm) hL).mono ?_
 rintro e w' ⟨p2, rfl, h⟩
 have h2 := h.lowerNew hk
 rw [set_self hk] at h2
 exact ⟨p2, rfl, h2⟩
end
end Go.Proofs.YtdndoikgnohkkaaDoor

namespace Go.Proofs.YtdndoikgnohkkaaDoor
open Go.RowKit

abbrev Tr := Value × Ln
section
variable {w0 w : World} {os : List Ob}
end
end Go.Proofs.YtdndoikgnohkkaaDoor

namespace Go.Proofs.YtdndoikgnohkkaaDoor
open Go.RowKit

section
variable {w0 w : World} {os : List Ob} {v : Value} {hp : List (Value × Bool)}
end
end Go.Proofs.YtdndoikgnohkkaaDoor

namespace Go.Proofs.YtdndoikgnohkkaaDoor
open Go.RowKit

def rollK (n : Int) (many : Nat) : Nat := if -(many : Int) < n ∧ n < many then n.natAbs else many
theorem rollK_le (n : Int) (many : Nat) : rollK n many ≤ many := by unfold rollK; split <;> omega
def lastHard (S : List Ln) : List Ln := softMod (S.length - 1) false S
theorem lastHard_length (S : List Ln) : (lastHard S).length = S.length := softMod_length _ _ _
def rollIn (top bot : Nat) (L : List Ln) : List Ln := (L.drop top).take (bot + 1 - top)
def rollStay (top bot : Nat) (n : Int) (L : List Ln) : List Ln :=
 if 0 < n then (rollIn top bot L).drop (rollK n (bot + 1 - top)) else (rollIn top bot L).take (bot + 1 - top - rollK n (bot + 1 - top))
def rollFresh (k cols : Nat) (q : Pen) : List Ln := List.replicate k (List.replicate cols (blank q), false)
def rollMid (top bot : Nat) (n : Int) (q : Pen) (cols : Nat) (L : List Ln) : List Ln :=
 if 0 < n then lastHard (rollStay top bot n L) ++ rollFresh (rollK n (bot + 1 - top)) cols q else rollFresh (rollK n (bot + 1 - top)) cols q ++ lastHard (rollStay top bot n L)
def topHard (top : Nat) (L : List Ln) : List Ln := if 0 < top then softMod (top - 1) false L else L
def rollL (top bot : Nat) (n : Int) (q : Pen) (cols : Nat) (L : List Ln) : List Ln :=
 if n = 0 then L else topHard top (L.take top ++ (rollMid top bot n q cols L ++ L.drop (bot + 1)))
theorem Rect.topHard {n : Nat} {L : List Ln} (h : Rect n L) (top : Nat) : Rect n (topHard top L) := by unfold Proofs.YtdndoikgnohkkaaDoor.topHard; split; exact h.softMod _ _; exact h
section
variable {top bot : Nat} {n : Int} {q : Pen} {cols : Nat} {L : List Ln}
theorem rollIn_length (h1 : top ≤ bot) (h2 : bot < L.length) : (rollIn top bot L).length = bot + 1 - top := by simp [rollIn]; omega
theorem rollStay_length (h1 : top ≤ bot) (h2 : bot < L.length) : (rollStay top bot n L).length = bot + 1 - top - rollK n (bot + 1 - top) := by
 have := rollK_le n (bot + 1 - top)
 unfold rollStay
 split <;> simp [rollIn_length h1 h2]
theorem rollMid_length (h1 : top ≤ bot) (h2 : bot < L.length) : (rollMid top bot n q cols L).length = bot + 1 - top := by
 have := rollK_le n (bot + 1 - top)
 unfold rollMid
 split <;> simp [lastHard_length, rollStay_length h1 h2, rollFresh] <;> omega
theorem Rect.part {n : Nat} {L : List Ln} (h : Rect n L) (a b : Nat) : Rect n ((L.drop a).take b) := fun l hl => h l (List.mem_of_mem_drop (List.mem_of_mem_take hl))
theorem Rect.app {n : Nat} {A B : List Ln} (h : Rect n A) (g : Rect n B) : Rect n (A ++ B) := fun l hl => (List.mem_append.1 hl).elim (h l) (g l)
theorem rect_fresh (k cols : Nat) (q : Pen) : Rect cols (rollFresh k cols q) := fun l hl => by rw [(List.mem_replicate.1 hl).2]; simp
theorem Rect.rollStay {cols : Nat} {L : List Ln} (h : Rect cols L) (top bot : Nat) (n : Int) : Rect cols (rollStay top bot n L) := by
 unfold Proofs.YtdndoikgnohkkaaDoor.rollStay
 split
 ·exact fun l hl => h.part _ _ l (List.mem_of_mem_drop hl)
 ·exact fun l hl => h.part _ _ l (List.mem_of_mem_take hl)
theorem Rect.rollL {L : List Ln} (h : Rect cols L) : Rect cols (rollL top bot n q cols L) := by
 unfold Proofs.YtdndoikgnohkkaaDoor.rollL
 split
 ·exact h
 ·refine Rect.topHard (Rect.app (fun l hl => h l (List.mem_of_mem_take hl)) (Rect.app ?_ (fun l hl => h l (List.mem_of_mem_drop hl)))) _
  unfold rollMid
  split
  ·exact ((h.rollStay _ _ _).softMod _ _).app (rect_fresh _ _ _)
  ·exact (rect_fresh _ _ _).app ((h.rollStay _ _ _).softMod _ _)
end
section
variable {w0 w : World} {os : List Ob}
end
section
variable {w0 w : World} {os : List Ob}
end
section
variable {T F : List Tr} {L : List Ln} {top bot k many cols : Nat} {n : Int} {q : Pen}
end
end Go.Proofs.YtdndoikgnohkkaaDoor

namespace Go.Proofs.YtdndoikgnohkkaaDoor
open Go.RowKit

section
variable {w0 w : World} {os : List Ob}
end
section
variable {w0 w : World} {os : List Ob} {p cols : Nat} {L : List Ln}
end
end Go.Proofs.YtdndoikgnohkkaaDoor

namespace Go.Proofs.YtdndoikgnohkkaaDoor
open Go.RowKit

section
variable {w0 w : World} {os : List Ob} {p cols : Nat} {L : List Ln}
end
end Go.Proofs.YtdndoikgnohkkaaDoor

namespace Go.Proofs.YtdndoikgnohkkaaDoor
open Go.RowKit

end Go.Proofs.YtdndoikgnohkkaaDoor

namespace Go.Proofs.YtdndoikgnohkkaaDoor
open Go.RowKit

theorem RdL.part {w : World} {b off c c' a m : Nat} {L : List Ln} (h : RdL w (some ⟨b, off, none⟩) c L) (ham : a + m ≤ L.length) (hm : m ≤ c') : RdL w (some ⟨b, off + a * 2, none⟩) c' ((L.drop a).take m) := by
 refine ⟨by simp; omega, (fun e => by cases e), fun hn => ?_⟩
 have hm0 : 0 < m := by simp at hn; omega
 obtain ⟨b', off', e, hz, hr⟩ := h.2.2 (by omega)
 cases e
 refine ⟨b, off + a * 2, rfl, hz, fun i l hl => ?_⟩
 rw [List.getElem?_take] at hl
 split at hl
 ·rw [List.getElem?_drop] at hl
  obtain ⟨A', c', h1, h2, h3⟩ := hr (a + i) l hl
  exact ⟨A', c', by rw [show off + a * 2 + i * 2 = off + (a + i) * 2 by omega]; exact h1, by rw [show off + a * 2 + i * 2 + 1 = off + (a + i) * 2 + 1 by omega]; exact h2, h3⟩
 ·cases hl
theorem RdL.empty (w : World) (ad : Addr) (c : Nat) : RdL w (some ad) c [] := ⟨by simp, (fun e => by cases e), fun h => by simp at h⟩
section
variable {w0 w : World} {os : List Ob} {v : Value} {hp : List (Value × Bool)}
end
section
variable {T Ts Tf : List Tr} {L : List Ln} {top bot k many cols : Nat} {n : Int} {q : Pen}
end
end Go.Proofs.YtdndoikgnohkkaaDoor

namespace Go.Proofs.YtdndoikgnohkkaaDoor
open Go.RowKit

section
variable {w0 w : World} {os : List Ob}
end
section
variable {w0 w : World} {os : List Ob} {x cols : Nat} {L : List Ln}
end
end Go.Proofs.YtdndoikgnohkkaaDoor

namespace Go.Proofs.YtdndoikgnohkkaaDoor
open Go.RowKit

section
variable {w0 w : World} {os : List Ob} {v : Value} {hp : List (Value × Bool)}
end
section
variable {w0 w : World} {os : List Ob} {x cols : Nat} {L : List Ln}
end
end Go.Proofs.YtdndoikgnohkkaaDoor

namespace Go.Proofs.YtdndoikgnohkkaaDoor
open Go.RowKit

def shiftN (j cols : Nat) (n : Int) (q : Pen) (cs : List Cell) : List Cell :=
 if n = 0 then cs else if 0 < n then shiftR j (min n ((cols - j : Nat) : Int)).toNat q cs else shiftL j (min (-n) ((cols - j : Nat) : Int)).toNat q cs
section
variable {w0 w : World} {os : List Ob} {k p cols : Nat} {L : List Ln}
end
end Go.Proofs.YtdndoikgnohkkaaDoor

namespace Go.Proofs.YtdndoikgnohkkaaDoor
open Go.RowKit

theorem cAt_set (cs : List Cell) (i j : Nat) (x : Cell) : cAt (cs.set i x) j = if i = j ∧ i < cs.length then x else cAt cs j := by
 unfold cAt
 simp only [List.getD_eq_getElem?_getD, List.getElem?_set]
 by_cases h : i = j
 ·subst h
  by_cases h2 : i < cs.length
  ·simp [h2]
  ·simp [h2]
 ·simp [h]
theorem cAt_brk (c : Nat) (cs : List Cell) (j : Nat) : cAt (brk c cs) j = if (1 ≤ c ∧ c < cs.length ∧ (cAt cs (c - 1)).width = 2) ∧ (j + 1 = c ∨ j = c) then blank (cAt cs j).pen else cAt cs j := by
 cases c with
 | zero => simp [brk]
 | succ m =>
  rw [brk_succ]
  by_cases h : m + 1 < cs.length ∧ (cAt cs m).width = 2
  ·rw [if_pos h, cAt_set, cAt_set]
   simp only [List.length_set, Nat.add_sub_cancel]
   by_cases h1 : m + 1 = j
   ·subst h1; simp [h.1, h.2]
   ·by_cases h2 : m = j
    ·subst h2; simp [h.2, show m < cs.length by omega, h.1]
    ·rw [if_neg (by omega), if_neg (by omega), if_neg (by omega)]
  ·rw [if_neg h, if_neg]
   simp only [Nat.add_sub_cancel]
   intro h2; exact h ⟨h2.1.2.1, h2.1.2.2⟩
theorem cAt_wipe {a m : Nat} {p : Pen} {cs : List Cell} (h : a + m ≤ cs.length) (j : Nat) : cAt (wipeC a m p cs) j = if a ≤ j ∧ j < a + m then blank p else cAt cs j := by
 unfold cAt wipeC
 simp only [List.getD_eq_getElem?_getD]
 by_cases h1 : j < a
 ·rw [if_neg (by omega), List.append_assoc, List.getElem?_append_left (by simp; omega), List.getElem?_take, if_pos h1]
 ·by_cases h2 : j < a + m
  ·rw [if_pos ⟨by omega, h2⟩, List.append_assoc, List.getElem?_append_right (by simp; omega), List.getElem?_append_left (by simp; omega)]
   simp [List.getElem?_replicate, show min a cs.length = a by omega, show j - a < m by omega]
  ·rw [if_neg (by omega), List.getElem?_append_right (by simp; omega), List.getElem?_drop]
   congr 2
   simp; omega
def lnMod (i : Nat) (F : Ln → Ln) (L : List Ln) : List Ln := match L[i]? with | some l => L.set i (F l) | none => L
theorem lnMod_get (i : Nat) (F : Ln → Ln) (L : List Ln) (r : Nat) : (lnMod i F L)[r]? = (L[r]?).map (fun l => if r = i then F l else l) := by
 unfold lnMod
 split
 ·rename_i l hl
  rw [List.getElem?_set]
  by_cases h : i = r
  ·subst h
   have hi := (List.getElem?_eq_some_iff.1 hl).1
   rw [if_pos rfl, if_pos hi, hl]
   simp
  ·rw [if_neg h]
   have h' : ¬ r = i := fun e => h e.symm
   simp [h']
 ·rename_i hl
  by_cases h : r = i
  ·subst h; rw [hl]; rfl
  ·simp [h]
theorem rowMod_is (i : Nat) (f : List Cell → List Cell) (L : List Ln) : rowMod i f L = lnMod i (fun l => (f l.1, l.2)) L := rfl
theorem softMod_is (i : Nat) (s : Bool) (L : List Ln) : softMod i s L = lnMod i (fun l => (l.1, s)) L := rfl
theorem Rect.lnMod {n : Nat} {L : List Ln} (h : Rect n L) (i : Nat) {F : Ln → Ln} (hF : ∀ l : Ln, l.1.length = n → (F l).1.length = n) : Rect n (lnMod i F L) := by
 unfold Proofs.YtdndoikgnohkkaaDoor.lnMod
 split
 ·rename_i l hl; exact rect_set h (hF _ (h.at_ hl))
 ·exact h
def otherRow (row : Nat) (k : Int) (n : Nat) : Prop := (n < row ∧ ¬ k = 0) ∨ (row < n ∧ ¬ k = 1)
instance (row : Nat) (k : Int) (n : Nat) : Decidable (otherRow row k n) := by unfold otherRow; infer_instance
section
variable {cols row col : Nat} {k : Int} {q : Pen} {L : List Ln}
end
end Go.Proofs.YtdndoikgnohkkaaDoor

namespace Go.Proofs.YtdndoikgnohkkaaDoor
open Go.RowKit

def hardIf (b : Prop) [Decidable b] (l : Ln) : Ln := if b then (l.1, false) else l
def freshLn (cols : Nat) (q : Pen) : Ln := (List.replicate cols (blank q), false)
theorem hardIf_no {b : Prop} [Decidable b] (h : ¬ b) : hardIf b = id := by funext l; simp [hardIf, h]
theorem softMod_get (i : Nat) (L : List Ln) (r : Nat) : (softMod i false L)[r]? = (L[r]?).map (hardIf (r = i)) := by
  rw [softMod_is, lnMod_get]; rfl
theorem rollFresh_get {k cols r : Nat} {q : Pen} (h : r < k) : (rollFresh k cols q)[r]? = some (freshLn cols q) := by simp [rollFresh, freshLn, h]
theorem rollFresh_len (k cols : Nat) (q : Pen) : (rollFresh k cols q).length = k := by simp [rollFresh]
def rollAt (top bot : Nat) (n : Int) (q : Pen) (cols : Nat) (L : List Ln) (r : Nat) : Option Ln :=
  if n = 0 then L[r]? else
  (if r < top ∨ bot < r then L[r]?
   else if 0 < n then (if r + rollK n (bot + 1 - top) ≤ bot then (L[r + rollK n (bot + 1 - top)]?).map (hardIf (r + rollK n (bot + 1 - top) = bot)) else some (freshLn cols q))
   else (if r < top + rollK n (bot + 1 - top) then some (freshLn cols q) else (L[r - rollK n (bot + 1 - top)]?).map (hardIf (r = bot)))).map (hardIf (0 < top ∧ r + 1 = top))
section
variable {top bot : Nat} {n : Int} {q : Pen} {cols : Nat} {L : List Ln}
theorem rollIn_get {r : Nat} (hr : r < bot + 1 - top) : (rollIn top bot L)[r]? = L[top + r]? := by
  unfold rollIn; rw [List.getElem?_take, if_pos hr, List.getElem?_drop]
theorem rollMid_get (htb : top ≤ bot) (hbl : bot < L.length) {r : Nat} (hr : r < bot + 1 - top) :
    (rollMid top bot n q cols L)[r]? = if 0 < n then (if r + rollK n (bot + 1 - top) ≤ bot - top then (L[top + r + rollK n (bot + 1 - top)]?).map (hardIf (r + rollK n (bot + 1 - top) = bot - top)) else some (freshLn cols q))
      else (if r < rollK n (bot + 1 - top) then some (freshLn cols q) else (L[top + r - rollK n (bot + 1 - top)]?).map (hardIf (r = bot - top))) := by
  have hK := rollK_le n (bot + 1 - top)
  have hSl := rollStay_length (n := n) htb hbl
  unfold rollMid
  by_cases h0 : 0 < n
  · rw [if_pos h0, if_pos h0]
    by_cases h1 : r + rollK n (bot + 1 - top) ≤ bot - top
    · rw [if_pos h1, List.getElem?_append_left (by rw [lastHard_length, hSl]; omega)]
      unfold lastHard
      rw [softMod_get, hSl]
      unfold rollStay
      rw [if_pos h0, List.getElem?_drop, rollIn_get (by omega), show top + (rollK n (bot + 1 - top) + r) = top + r + rollK n (bot + 1 - top) by omega]
      congr 1
      funext l
      unfold hardIf
      by_cases h2 : r + rollK n (bot + 1 - top) = bot - top
      · rw [if_pos (by omega), if_pos h2]
      · rw [if_neg (by omega), if_neg h2]
    · rw [if_neg h1, List.getElem?_append_right (by rw [lastHard_length, hSl]; omega), rollFresh_get (by rw [lastHard_length, hSl]; omega)]
  · rw [if_neg h0, if_neg h0]
    by_cases h1 : r < rollK n (bot + 1 - top)
    · rw [if_pos h1, List.getElem?_append_left (by rw [rollFresh_len]; exact h1), rollFresh_get h1]
    · rw [if_neg h1, List.getElem?_append_right (by rw [rollFresh_len]; omega), rollFresh_len]
      unfold lastHard
      rw [softMod_get, hSl]
      unfold rollStay
      rw [if_neg h0, List.getElem?_take, if_pos (by omega), rollIn_get (by omega), show top + (r - rollK n (bot + 1 - top)) = top + r - rollK n (bot + 1 - top) by omega]
      congr 1
      funext l
      unfold hardIf
      by_cases h2 : r = bot - top
      · rw [if_pos (by omega), if_pos h2]
      · rw [if_neg (by omega), if_neg h2]
theorem topHard_get (r : Nat) : (topHard top L)[r]? = (L[r]?).map (hardIf (0 < top ∧ r + 1 = top)) := by
  unfold topHard
  by_cases h : 0 < top
  · rw [if_pos h, softMod_get]
    congr 1
    funext l
    unfold hardIf
    by_cases h2 : r = top - 1
    · rw [if_pos h2, if_pos (by omega)]
    · rw [if_neg h2, if_neg (by omega)]
  · rw [if_neg h, hardIf_no (by omega)]; simp
theorem rollL_get (htb : top ≤ bot) (hbl : bot < L.length) (r : Nat) : (rollL top bot n q cols L)[r]? = rollAt top bot n q cols L r := by
  unfold rollL rollAt
  by_cases h0 : n = 0
  · rw [if_pos h0, if_pos h0]
  rw [if_neg h0, if_neg h0, topHard_get]
  congr 1
  have hM := rollMid_length (n := n) (q := q) (cols := cols) htb hbl
  by_cases h1 : r < top
  · rw [List.getElem?_append_left (by simp; omega), List.getElem?_take, if_pos h1, if_pos (.inl h1)]
  have hTl : (L.take top).length = top := by simp; omega
  rw [List.getElem?_append_right (by omega), hTl]
  by_cases h2 : bot < r
  · rw [List.getElem?_append_right (by omega), hM, List.getElem?_drop, if_pos (.inr h2), show bot + 1 + (r - top - (bot + 1 - top)) = r by omega]
  rw [List.getElem?_append_left (by omega), rollMid_get htb hbl (by omega), if_neg (by omega : ¬ (r < top ∨ bot < r))]
  by_cases h3 : 0 < n
  · rw [if_pos h3, if_pos h3]
    by_cases h4 : r + rollK n (bot + 1 - top) ≤ bot
    · rw [if_pos (by omega), if_pos h4, show top + (r - top) = r by omega]
      congr 1
      funext l
      unfold hardIf
      by_cases h5 : r + rollK n (bot + 1 - top) = bot
      · rw [if_pos (by omega), if_pos h5]
      · rw [if_neg (by omega), if_neg h5]
    · rw [if_neg (show ¬ r - top + rollK n (bot + 1 - top) ≤ bot - top by omega), if_neg h4]
  · rw [if_neg h3, if_neg h3]
    by_cases h4 : r < top + rollK n (bot + 1 - top)
    · rw [if_pos (show r - top < rollK n (bot + 1 - top) by omega), if_pos h4]
    · rw [if_neg (show ¬ r - top < rollK n (bot + 1 - top) by omega), if_neg h4, show top + (r - top) = r by omega]
      congr 1
      funext l
      unfold hardIf
      by_cases h5 : r = bot
      · rw [if_pos (by omega), if_pos h5]
      · rw [if_neg (by omega), if_neg h5]
theorem hardIf_fresh (a : Prop) [Decidable a] (cols : Nat) (q : Pen) : hardIf a (freshLn cols q) = freshLn cols q := by
  unfold hardIf freshLn; split <;> rfl
theorem rollAt_out (hn : ¬ n = 0) {r : Nat} (h : r < top ∨ bot < r) : rollAt top bot n q cols L r = (L[r]?).map (hardIf (0 < top ∧ r + 1 = top)) := by
  unfold rollAt; rw [if_neg hn, if_pos h]
theorem rollAt_up (hn : 0 < n) {r K : Nat} (hK : rollK n (bot + 1 - top) = K) (h : ¬ (r < top ∨ bot < r)) (h2 : r + K ≤ bot) : rollAt top bot n q cols L r = (L[r + K]?).map (hardIf (r + K = bot)) := by
  subst hK
  unfold rollAt
  rw [if_neg (show ¬ n = 0 by omega), if_neg h, if_pos hn, if_pos h2, hardIf_no (show ¬ (0 < top ∧ r + 1 = top) by omega), Option.map_id, id]
theorem rollAt_upf (hn : 0 < n) {r K : Nat} (hK : rollK n (bot + 1 - top) = K) (h : ¬ (r < top ∨ bot < r)) (h2 : ¬ r + K ≤ bot) : rollAt top bot n q cols L r = some (freshLn cols q) := by
  subst hK
  unfold rollAt
  rw [if_neg (show ¬ n = 0 by omega), if_neg h, if_pos hn, if_neg h2, Option.map_some, hardIf_fresh]
theorem rollAt_dnf (hn : n < 0) {r K : Nat} (hK : rollK n (bot + 1 - top) = K) (h : ¬ (r < top ∨ bot < r)) (h2 : r < top + K) : rollAt top bot n q cols L r = some (freshLn cols q) := by
  subst hK
  unfold rollAt
  rw [if_neg (show ¬ n = 0 by omega), if_neg h, if_neg (show ¬ 0 < n by omega), if_pos h2, Option.map_some, hardIf_fresh]
theorem rollAt_dn (hn : n < 0) {r K : Nat} (hK : rollK n (bot + 1 - top) = K) (h : ¬ (r < top ∨ bot < r)) (h2 : ¬ r < top + K) : rollAt top bot n q cols L r = (L[r - K]?).map (hardIf (r = bot)) := by
  subst hK
  unfold rollAt
  rw [if_neg (show ¬ n = 0 by omega), if_neg h, if_neg (show ¬ 0 < n by omega), if_neg h2, hardIf_no (show ¬ (0 < top ∧ r + 1 = top) by omega), Option.map_id, id]
end
end Go.Proofs.YtdndoikgnohkkaaDoor

namespace Go.Proofs.YtdndoikgnohkkaaDoor
open Go.RowKit

theorem brk_before {c : Nat} {cs : List Cell} (h1 : 1 ≤ c) (hc : c < cs.length) : ¬ (cAt (brk c cs) (c - 1)).width = 2 := by
 rw [cAt_brk]
 split
 ·simp [blank]
 ·rename_i h; intro h2; exact h ⟨⟨h1, hc, h2⟩, by omega⟩
section
variable {j k m : Nat} {q : Pen} {cs : List Cell}
theorem cAt_shiftR (h : j + k ≤ cs.length) {i : Nat} (hi : i < cs.length) : cAt (shiftR j k q cs) i = if i < j then cAt (brk (cs.length - k) (brk j cs)) i else if i < j + k then blank q else cAt (brk (cs.length - k) (brk j cs)) (i - k) := by
 obtain ⟨l, hl⟩ : ∃ l, l = brk (cs.length - k) (brk j cs) := ⟨_, rfl⟩
 have hll : l.length = cs.length := by rw [hl, brk_length, brk_length]
 unfold shiftR
 simp only [← hl]
 have ht : (l.take j).length = j := by simp; omega
 unfold cAt
 simp only [List.getD_eq_getElem?_getD]
 by_cases h1 : i < j
 ·rw [if_pos h1, List.getElem?_append_left (by omega), List.getElem?_take, if_pos h1]
 ·rw [if_neg h1, List.getElem?_append_right (by omega), ht]
  by_cases h2 : i < j + k
  ·rw [if_pos h2, List.getElem?_append_left (by simp; omega)]
   simp [List.getElem?_replicate, show i - j < k by omega]
  ·rw [if_neg h2, List.getElem?_append_right (by simp; omega), List.length_replicate, List.getElem?_take, if_pos (by omega), List.getElem?_drop, show j + (i - j - k) = i - k by omega]
theorem cAt_shiftL (h : j + k ≤ cs.length) {i : Nat} (hi : i < cs.length) : cAt (shiftL j k q cs) i = if i < j then cAt (brk (j + k) (brk j cs)) i else if i < cs.length - k then cAt (brk (j + k) (brk j cs)) (i + k) else blank q := by
 obtain ⟨l, hl⟩ : ∃ l, l = brk (j + k) (brk j cs) := ⟨_, rfl⟩
 have hll : l.length = cs.length := by rw [hl, brk_length, brk_length]
 unfold shiftL
 simp only [← hl]
 have ht : (l.take j).length = j := by simp; omega
 unfold cAt
 simp only [List.getD_eq_getElem?_getD]
 by_cases h1 : i < j
 ·rw [if_pos h1, List.getElem?_append_left (by omega), List.getElem?_take, if_pos h1]
 ·rw [if_neg h1, List.getElem?_append_right (by omega), ht]
  by_cases h2 : i < cs.length - k
  ·rw [if_pos h2, List.getElem?_append_left (by simp; omega), List.getElem?_drop, show j + k + (i - j) = i + k by omega]
  ·rw [if_neg h2, List.getElem?_append_right (by simp; omega)]
   simp [List.getElem?_replicate, show i - j - (l.length - (j + k)) < k by omega]
def W2 (cs : List Cell) : Prop := ∀ i, i + 1 < cs.length → (cAt cs i).width = 2 → ¬ (cAt cs (i + 1)).width = 2
theorem W2.brk {cs : List Cell} (h : W2 cs) (c : Nat) : W2 (brk c cs) := fun i hi h1 h2 => by
 rw [brk_length] at hi
 rw [cAt_brk] at h1 h2
 split at h1
 ·simp [blank] at h1
 ·split at h2
  ·simp [blank] at h2
  ·exact h i hi h1 h2
end
section
variable {j cols a b : Nat} {q : Pen} {cs : List Cell}
end
end Go.Proofs.YtdndoikgnohkkaaDoor

namespace Go.Proofs.YtdndoikgnohkkaaDoor
open Go.RowKit

section
variable {w0 w : World} {os : List Ob} {k p cols : Nat} {L : List Ln}
end
end Go.Proofs.YtdndoikgnohkkaaDoor

namespace Go.Proofs.YtdndoikgnohkkaaDoor
open Go.RowKit

section
variable {w0 w : World} {os : List Ob} {k p cols : Nat} {L : List Ln}
end
end Go.Proofs.YtdndoikgnohkkaaDoor

namespace Go.Proofs.YtdndoikgnohkkaaDoor
open Go.RowKit

section
variable {w0 w : World} {os : List Ob} {k p cols : Nat} {L : List Ln}
end
end Go.Proofs.YtdndoikgnohkkaaDoor

namespace Go.Proofs.YtdndoikgnohkkaaDoor
open Go.RowKit

section
variable {w0 w : World} {os : List Ob} {k p cols : Nat} {L : List Ln} {row col : Int} {pend : Bool}
def NoRows (w : World) (gp : Value) : Prop := ∀ w', Below w.heap.size w w' → Calls Tryd.prog 28 #[gp] w' fun e w2 => e = .returned (.int .i64 0) ∧ Below w'.heap.size w' w2
theorem NoRows.bel {gp : Value} {w' : World} (h : NoRows w gp) (hb : Below w.heap.size w w') : NoRows w' gp := fun w2 hb2 => h w2 (hb.trans (hb2.mono hb.size))
end
end Go.Proofs.YtdndoikgnohkkaaDoor

namespace Go.Proofs.YtdndoikgnohkkaaDoor
open Go.RowKit

structure Chg18 where
 g : Value
 row : Int
 col : Int
 pend : Bool
 top : Int
 bot : Int
 rows : Bool
 n : Int
 q : Pen
def ach (a : Chg18) : Array Value := #[a.g, .int .i64 a.row, .int .i64 a.col, .bool a.pend, .int .i64 a.top, .int .i64 a.bot, .bool a.rows, .int .i64 a.n, .int .i64 a.q.fk, .int .u8 a.q.fi, .int .u8 a.q.fr, .int .u8 a.q.fg, .int .u8 a.q.fb, .int .i64 a.q.bk, .int .u8 a.q.bi, .int .u8 a.q.br, .int .u8 a.q.bg, .int .u8 a.q.bb, .int .u8 a.q.fl]
@[go_sem] theorem ach_size (a : Chg18) : (ach a).size = 19 := by simp [ach]
@[simp high, go_sem high] theorem ach_get0 (a : Chg18) : (ach a)[0]? = some a.g := by simp [ach]
@[simp high, go_sem high] theorem ach_get1 (a : Chg18) : (ach a)[1]? = some (.int .i64 a.row) := by simp [ach]
@[simp high, go_sem high] theorem ach_get2 (a : Chg18) : (ach a)[2]? = some (.int .i64 a.col) := by simp [ach]
@[simp high, go_sem high] theorem ach_get3 (a : Chg18) : (ach a)[3]? = some (.bool a.pend) := by simp [ach]
@[simp high, go_sem high] theorem ach_get4 (a : Chg18) : (ach a)[4]? = some (.int .i64 a.top) := by simp [ach]
@[simp high, go_sem high] theorem ach_get5 (a : Chg18) : (ach a)[5]? = some (.int .i64 a.bot) := by simp [ach]
@[simp high, go_sem high] theorem ach_get6 (a : Chg18) : (ach a)[6]? = some (.bool a.rows) := by simp [ach]
@[simp high, go_sem high] theorem ach_get7 (a : Chg18) : (ach a)[7]? = some (.int .i64 a.n) := by simp [ach]
theorem ach_pen {w : World} {b o : Nat} {a : Chg18} (h : w.rangeAt b o (ach a).toList) : penAt w b (o + 8) = some a.q := penAt_of fun j v hv => by
 have := h (8 + j) v (by rw [← hv]; show ((ach a).toList)[8 + j]? = _; rw [← List.getElem?_drop]; rfl)
 rw [show o + 8 + j = o + (8 + j) by omega]; exact this
theorem Blk.ach_pen {w : World} {g : Nat} {t : TypeId} {a : Chg18} (h : Blk w g t (ach a)) : Proofs.YtdndoikgnohkkaaDoor.penAt w g 8 = some a.q := by have := Proofs.YtdndoikgnohkkaaDoor.ach_pen h.range; simpa using this
section
variable {w0 w : World} {os : List Ob} {k p cols : Nat} {L : List Ln}
end
end Go.Proofs.YtdndoikgnohkkaaDoor

namespace Go.Proofs.YtdndoikgnohkkaaDoor
open Go.RowKit

@[go_sem ↓] theorem load_ldR19 (a : Addr) : loadCellsFrom a 0 19 #[] = ldR a 19 := rfl
@[go_sem] theorem fill_ach (g : Value) (r c t b n : Int) (pe ro : Bool) (q : Pen) : Array.foldl (fun cs x => cs.setIfInBounds (8 + x.snd) x.fst) #[g, .int .i64 r, .int .i64 c, .bool pe, .int .i64 t, .int .i64 b, .bool ro, .int .i64 n, .int .i64 0, .int .u8 0, .int .u8 0, .int .u8 0, .int .u8 0, .int .i64 0, .int .u8 0, .int .u8 0, .int .u8 0, .int .u8 0, .int .u8 0] (pv q).zipIdx 0 11 = ach ⟨g, r, c, pe, t, b, ro, n, q⟩ := by kernel_rfl
theorem Blk.ach {w : World} {g : Nat} {t : TypeId} {a : Chg18} (h : Blk w g t (Proofs.YtdndoikgnohkkaaDoor.ach a)) : (∀ i, w.cell? ⟨g, i, none⟩ = (Proofs.YtdndoikgnohkkaaDoor.ach a)[i]?) ∧ (∀ i, w.frozen? ⟨g, i, none⟩ = false) ∧ g < w.heap.size ∧ Proofs.YtdndoikgnohkkaaDoor.recAt w g 0 19 = some (Proofs.YtdndoikgnohkkaaDoor.ach a) ∧ Proofs.YtdndoikgnohkkaaDoor.penAt w g 8 = some a.q :=
 ⟨h.cell, h.frozen, h.lt, h.recAt 19 (ach_size a), h.ach_pen⟩
def NoGrid (w : World) (gp : Value) : Prop := NoRows w gp ∧ ∀ w', Below w.heap.size w w' → Calls Tryd.prog 29 #[gp] w' fun e w2 => e = .returned (.int .i64 0) ∧ Below w'.heap.size w' w2
theorem NoGrid.bel {w w' : World} {gp : Value} (h : NoGrid w gp) (hb : Below w.heap.size w w') : NoGrid w' gp := ⟨h.1.bel hb, fun w2 hb2 => h.2 w2 (hb.trans (hb2.mono hb.size))⟩
section
variable {w0 w : World} {os : List Ob} {k p cols : Nat} {L : List Ln}
end
end Go.Proofs.YtdndoikgnohkkaaDoor

namespace Go.Proofs.YtdndoikgnohkkaaDoor
open Go.RowKit

theorem eqIn_cursor (a b c d : Int) (x y : Bool) (w : World) : (Op.equalIn 10000 23 (.agg #[.int .i64 a, .int .i64 b, .bool x]) (.agg #[.int .i64 c, .int .i64 d, .bool y])).run Tryd.prog w = .ok (decide (a = c ∧ b = d ∧ x = y)) w := by
 by_cases h0 : a = c
 case neg => simp [go_sem, h0]
 by_cases h1 : b = d
 case neg => simp [go_sem, h0, h1]
 cases x <;> cases y <;> simp [go_sem, h0, h1]
section
variable {w0 w : World} {os : List Ob} {k p cols : Nat} {L : List Ln}
end
end Go.Proofs.YtdndoikgnohkkaaDoor

namespace Go.Proofs.YtdndoikgnohkkaaDoor
open Go.RowKit

theorem loadVar_blk {P : Program} {w : World} {g : Nat} {t ty : TypeId} {cs : Array Value} {d : TypeDesc} (h : Blk w g t cs) (hu : P.underlying ty = some d) (hd : (match d with | .struct _ | .array _ _ => true | _ => false) = true) (hi : (P.info? ty).map (·.size) = some cs.size) : (loadVar ty ⟨g, 0, none⟩).run P w = .ok (.agg cs) w := by
 exact run_loadVar_row w g t ty cs (0, 0) d h hu hd hi
theorem results_cell2 {P : Program} {fn : Func} {p u : Tmp} {ty : TypeId} (h : fn.results = #[.cell p ty, .tmp u]) (tmps : Array Value) (w : World) (g : Nat) (t : TypeId) (cs : Array Value) (d : TypeDesc) (hp : tmps.getD p undef = .pointer (some ⟨g, 0, none⟩)) (hb : Blk w g t cs)
  (hu : P.underlying ty = some d) (hd : (match d with | .struct _ | .array _ _ => true | _ => false) = true) (hi : (P.info? ty).map (·.size) = some cs.size) : (results fn tmps).run P w = .ok (.tuple #[.agg cs, tmps.getD u undef]) w := by
 have hp' : tmps[p]?.getD undef = .pointer (some ⟨g, 0, none⟩) := by simpa using hp
 simp [results, h, hp', asAddr, loadVar_blk hb hu hd hi, Sem.run_bind, Result.andThen]
theorem results_cell3 {P : Program} {fn : Func} {p u v : Tmp} {ty : TypeId} (h : fn.results = #[.cell p ty, .tmp u, .tmp v]) (tmps : Array Value) (w : World) (g : Nat) (t : TypeId) (cs : Array Value) (d : TypeDesc) (hp : tmps.getD p undef = .pointer (some ⟨g, 0, none⟩)) (hb : Blk w g t cs)
  (hu : P.underlying ty = some d) (hd : (match d with | .struct _ | .array _ _ => true | _ => false) = true) (hi : (P.info? ty).map (·.size) = some cs.size) : (results fn tmps).run P w = .ok (.tuple #[.agg cs, tmps.getD u undef, tmps.getD v undef]) w := by
 have hp' : tmps[p]?.getD undef = .pointer (some ⟨g, 0, none⟩) := by simpa using hp
 simp [results, h, hp', asAddr, loadVar_blk hb hu hd hi, Sem.run_bind, Result.andThen]
section
variable {w0 w : World} {os : List Ob} {k p cols : Nat} {L : List Ln}
end
end Go.Proofs.YtdndoikgnohkkaaDoor

namespace Go.Proofs.YtdndoikgnohkkaaDoor
open Go.RowKit

section
variable {w0 w : World} {os : List Ob} {k p cols : Nat} {L : List Ln}
end
end Go.Proofs.YtdndoikgnohkkaaDoor

namespace Go.Proofs.YtdndoikgnohkkaaDoor
open Go.RowKit

section
variable {w0 w : World} {os : List Ob} {k p cols : Nat} {L : List Ln}
end
end Go.Proofs.YtdndoikgnohkkaaDoor
