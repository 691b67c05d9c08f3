/-
  Part 3 of the texts on which the proofs of this seat stand: each part says ahead of it what it shows.
-/
import Derived.Test.YtdndoikgnohkkaaDoorA2
set_option linter.unusedSimpArgs false
set_option linter.unusedVariables false
namespace Go.Proofs.YtdndoikgnohkkaaDoor
open Go.RowKit

@[go_sem ↓] theorem load_ldR18b (a : Addr) : loadCellsFrom a 0 18 #[] = ldR a 18 := rfl
attribute [go_sem high] eqIn_cursor
structure Act19 where
 what : Int
 n : Int
 top : Int
 bot : Int
 row : Int
 col : Int
 pend : Bool
 q : Pen
def av19 (a : Act19) : Array Value := #[.int .i64 a.what, .int .i64 a.n, .int .i64 a.top, .int .i64 a.bot, .int .i64 a.row, .int .i64 a.col, .bool a.pend, .int .i64 a.q.fk, .int .u8 a.q.fi, .int .u8 a.q.fr, .int .u8 a.q.fg, .int .u8 a.q.fb, .int .i64 a.q.bk, .int .u8 a.q.bi, .int .u8 a.q.br, .int .u8 a.q.bg, .int .u8 a.q.bb, .int .u8 a.q.fl]
@[go_sem] theorem av19_size (a : Act19) : (av19 a).size = 18 := by simp [av19]
@[simp high, go_sem high] theorem av19_get0 (a : Act19) : (av19 a)[0]? = some (.int .i64 a.what) := by simp [av19]
@[simp high, go_sem high] theorem av19_get1 (a : Act19) : (av19 a)[1]? = some (.int .i64 a.n) := by simp [av19]
@[simp high, go_sem high] theorem av19_get2 (a : Act19) : (av19 a)[2]? = some (.int .i64 a.top) := by simp [av19]
@[simp high, go_sem high] theorem av19_get3 (a : Act19) : (av19 a)[3]? = some (.int .i64 a.bot) := by simp [av19]
@[simp high, go_sem high] theorem av19_get4 (a : Act19) : (av19 a)[4]? = some (.int .i64 a.row) := by simp [av19]
@[simp high, go_sem high] theorem av19_get5 (a : Act19) : (av19 a)[5]? = some (.int .i64 a.col) := by simp [av19]
@[simp high, go_sem high] theorem av19_get6 (a : Act19) : (av19 a)[6]? = some (.bool a.pend) := by simp [av19]
@[go_sem] theorem av19_set0 (a : Act19) (n : Int) : (av19 a).setIfInBounds 0 (.int .i64 n) = av19 { a with what := n } := by simp [av19]
@[go_sem] theorem av19_set1 (a : Act19) (n : Int) : (av19 a).setIfInBounds 1 (.int .i64 n) = av19 { a with n := n } := by simp [av19]
end Go.Proofs.YtdndoikgnohkkaaDoor

namespace Go.Proofs.YtdndoikgnohkkaaDoor
open Go.RowKit

section
variable {w0 w : World} {os : List Ob}
end
end Go.Proofs.YtdndoikgnohkkaaDoor

namespace Go.Proofs.YtdndoikgnohkkaaDoor
open Go.RowKit

@[go_sem ↓] theorem load_ldR34 (a : Addr) : loadCellsFrom a 0 34 #[] = ldR a 34 := rfl
structure Act14 where
 what : Int
 row : Int
 a : Int
 b : Int
 n : Int
 x : Cell
 A : Option Addr
 c : Nat
 cs : List Cell
 soft : Bool
 q : Pen
def av14 (a : Act14) : Array Value := #[.int .i64 a.what, .int .i64 a.row, .int .i64 a.a, .int .i64 a.b, .int .i64 a.n, .int .i32 a.x.rune, .int .i32 a.x.m0, .int .i32 a.x.m1, .int .i32 a.x.m2, .int .i64 a.x.width, .int .i64 a.x.pen.fk, .int .u8 a.x.pen.fi, .int .u8 a.x.pen.fr, .int .u8 a.x.pen.fg, .int .u8 a.x.pen.fb, .int .i64 a.x.pen.bk, .int .u8 a.x.pen.bi, .int .u8 a.x.pen.br, .int .u8 a.x.pen.bg, .int .u8 a.x.pen.bb, .int .u8 a.x.pen.fl, .slice a.A a.cs.length a.c, .bool a.soft, .int .i64 a.q.fk, .int .u8 a.q.fi, .int .u8 a.q.fr, .int .u8 a.q.fg, .int .u8 a.q.fb, .int .i64 a.q.bk, .int .u8 a.q.bi, .int .u8 a.q.br, .int .u8 a.q.bg, .int .u8 a.q.bb, .int .u8 a.q.fl]
@[go_sem] theorem av14_size (a : Act14) : (av14 a).size = 34 := by simp [av14]
@[simp high, go_sem high] theorem av14_get0 (a : Act14) : (av14 a)[0]? = some (.int .i64 a.what) := by simp [av14]
@[simp high, go_sem high] theorem av14_get1 (a : Act14) : (av14 a)[1]? = some (.int .i64 a.row) := by simp [av14]
@[simp high, go_sem high] theorem av14_get2 (a : Act14) : (av14 a)[2]? = some (.int .i64 a.a) := by simp [av14]
@[simp high, go_sem high] theorem av14_get3 (a : Act14) : (av14 a)[3]? = some (.int .i64 a.b) := by simp [av14]
@[simp high, go_sem high] theorem av14_get4 (a : Act14) : (av14 a)[4]? = some (.int .i64 a.n) := by simp [av14]
@[simp high, go_sem high] theorem av14_get9 (a : Act14) : (av14 a)[9]? = some (.int .i64 a.x.width) := by simp [av14]
@[simp high, go_sem high] theorem av14_get21 (a : Act14) : (av14 a)[21]? = some (.slice a.A a.cs.length a.c) := by simp [av14]
@[simp high, go_sem high] theorem av14_get22 (a : Act14) : (av14 a)[22]? = some (.bool a.soft) := by simp [av14]
def here14 (row : Int) (R : Nat) : Bool := decide (0 ≤ row ∧ row < R)
def putE (row col : Int) (x : Cell) (cols R : Nat) : Int := if ¬ (here14 row R = true ∧ 0 ≤ col ∧ col < cols) then 3 else if ¬ (x.ok = true ∧ ¬ x.width = 0 ∧ col + x.width ≤ cols) then 2 else 0
def clrE (row f t : Int) (q : Pen) (cols R : Nat) : Int := if ¬ (here14 row R = true ∧ 0 ≤ f ∧ f ≤ t ∧ t ≤ cols) then 3 else if ¬ q.ok = true then 2 else 0
def shfE (row col : Int) (q : Pen) (cols R : Nat) : Int := if ¬ (here14 row R = true ∧ 0 ≤ col ∧ col < cols) then 3 else if ¬ q.ok = true then 2 else 0
def setE (row : Int) (cs : List Cell) (R : Nat) : Int := if ¬ here14 row R = true then 3 else if ¬ lineOk cs = true then 2 else 0
def rolE (top bot : Int) (q : Pen) (R : Nat) : Int := if ¬ (0 ≤ top ∧ top ≤ bot ∧ bot < R) then 3 else if ¬ q.ok = true then 2 else 0
def act14N (a : Act14) (cols : Nat) (L : List Ln) : List Ln :=
 if a.what = 0 then (if putE a.row a.a a.x cols L.length = 0 then rowMod a.row.toNat (putC a.a.toNat a.x) L else L)
 else if a.what = 1 then (if clrE a.row a.a a.b a.q cols L.length = 0 then rowMod a.row.toNat (clearC a.a.toNat a.b.toNat a.q) L else L)
 else if a.what = 2 then (if shfE a.row a.a a.q cols L.length = 0 then rowMod a.row.toNat (shiftN a.a.toNat cols a.b a.q) L else L)
 else if a.what = 3 then (if setE a.row a.cs L.length = 0 then L.set a.row.toNat (fitTo cols a.cs, a.soft) else L)
 else if a.what = 4 then (if here14 a.row L.length = true then softMod a.row.toNat (decide (0 < a.a)) L else L)
 else if a.what = 5 then (if rolE a.a a.b a.q L.length = 0 then rollL a.a.toNat a.b.toNat a.n a.q cols L else L)
 else L
theorem here14_nat {row : Int} {R : Nat} (h : here14 row R = true) : ∃ r : Nat, row = r ∧ r < R := by
 have := of_decide_eq_true h
 exact ⟨row.toNat, by omega, by omega⟩
theorem putE_yes {row col : Int} {x : Cell} {cols R : Nat} (h : putE row col x cols R = 0) : ∃ i j : Nat, row = i ∧ col = j ∧ i < R ∧ j < cols ∧ x.ok = true ∧ ¬ x.width = 0 ∧ (j : Int) + x.width ≤ cols := by
 unfold putE at h
 split at h
 ·cases h
 split at h
 ·cases h
 ·rename_i h1 h2
  have h1 := Classical.not_not.1 h1
  have h2 := Classical.not_not.1 h2
  obtain ⟨r, e, hr⟩ := here14_nat h1.1
  exact ⟨r, col.toNat, e, by omega, hr, by omega, h2.1, h2.2.1, by omega⟩
theorem clrE_yes {row f t : Int} {q : Pen} {cols R : Nat} (h : clrE row f t q cols R = 0) : ∃ i f' t' : Nat, row = i ∧ f = f' ∧ t = t' ∧ i < R ∧ f' ≤ t' ∧ t' ≤ cols ∧ q.ok = true := by
 unfold clrE at h
 split at h
 ·cases h
 split at h
 ·cases h
 ·rename_i h1 h2
  have h1 := Classical.not_not.1 h1
  have h2 := Classical.not_not.1 h2
  obtain ⟨r, e, hr⟩ := here14_nat h1.1
  exact ⟨r, f.toNat, t.toNat, e, by omega, by omega, hr, by omega, by omega, h2⟩
theorem shfE_yes {row col : Int} {q : Pen} {cols R : Nat} (h : shfE row col q cols R = 0) : ∃ i j : Nat, row = i ∧ col = j ∧ i < R ∧ j < cols ∧ q.ok = true := by
 unfold shfE at h
 split at h
 ·cases h
 split at h
 ·cases h
 ·rename_i h1 h2
  have h1 := Classical.not_not.1 h1
  have h2 := Classical.not_not.1 h2
  obtain ⟨r, e, hr⟩ := here14_nat h1.1
  exact ⟨r, col.toNat, e, by omega, hr, by omega, h2⟩
theorem setE_yes {row : Int} {cs : List Cell} {R : Nat} (h : setE row cs R = 0) : ∃ i : Nat, row = i ∧ i < R ∧ lineOk cs = true := by
 unfold setE at h
 split at h
 ·cases h
 split at h
 ·cases h
 ·rename_i h1 h2
  obtain ⟨r, e, hr⟩ := here14_nat (Classical.not_not.1 h1)
  exact ⟨r, e, hr, Classical.not_not.1 h2⟩
theorem rolE_yes {top bot : Int} {q : Pen} {R : Nat} (h : rolE top bot q R = 0) : ∃ t b : Nat, top = t ∧ bot = b ∧ t ≤ b ∧ b < R ∧ q.ok = true := by
 unfold rolE at h
 split at h
 ·cases h
 split at h
 ·cases h
 ·rename_i h1 h2
  have h1 := Classical.not_not.1 h1
  exact ⟨top.toNat, bot.toNat, by omega, by omega, by omega, by omega, Classical.not_not.1 h2⟩
end Go.Proofs.YtdndoikgnohkkaaDoor

namespace Go.Proofs.YtdndoikgnohkkaaDoor
open Go.RowKit

theorem no_call {P : Program} {f : FuncId} {args : Array Value} {k : Nat} {o : Ob} {r r2 : Value} {w0 w : World} {os : List Ob} (hr : r = r2) (hS : Objs w0 w os) (hk : os[k]? = some o)
  (hc : ∀ os1, Objs w0 w (o :: os1) → Calls P f args w fun e w' => e = .returned r ∧ Objs w0 w' (o :: os1)) : Calls P f args w fun e w' => e = .returned r2 ∧ Objs w0 w' os := by
 subst hr
 have h := front_call hS hk hc
 rwa [set_self hk] at h
section
variable {w0 w : World} {os : List Ob} {k p cols : Nat} {L : List Ln}
theorem PutN {row col : Int} (x : Cell) (hT : Tabs w0) (hS : Objs w0 w os) (hk : os[k]? = some (.grid p 83 cols L)) (hc : 0 < cols) (hcm : cols ≤ 1000) (hno : ¬ putE row col x cols L.length = 0) :
  Calls Tryd.prog 44 #[.pointer (some ⟨p, 0, none⟩), .int .i64 row, .int .i64 col, .agg (cv x)] w fun e w' => e = .returned (.int .i64 (putE row col x cols L.length)) ∧ Objs w0 w' os := by
 by_cases h1 : here14 row L.length = true ∧ 0 ≤ col ∧ col < cols
 case neg =>
  have e : putE row col x cols L.length = 3 := if_pos h1
  refine no_call (by rw [e]) hS hk (fun os1 h => Put_out row col x h hc (fun hh => h1 ⟨decide_eq_true hh.1, hh.2⟩))
 obtain ⟨i, rfl, hi⟩ := here14_nat h1.1
 obtain ⟨j, rfl⟩ : ∃ j : Nat, col = j := ⟨col.toNat, by omega⟩
 have hj : j < cols := by omega
 have hu : putE i j x cols L.length = if ¬ (x.ok = true ∧ ¬ x.width = 0 ∧ (j : Int) + x.width ≤ cols) then 2 else 0 := if_neg (Classical.not_not.2 h1)
 by_cases h2 : x.ok = true ∧ ¬ x.width = 0 ∧ (j : Int) + x.width ≤ cols
 ·exact (hno (hu.trans (if_neg (Classical.not_not.2 h2)))).elim
 have e : putE i j x cols L.length = 2 := hu.trans (if_pos h2)
 cases hv : x.ok with
 | false => exact no_call (by rw [e]) hS hk (fun os1 h => Put_bad1 x hT h hc hcm hi hj hv)
 | true =>
  by_cases hw : x.width = 0
  ·exact no_call (by rw [e]) hS hk (fun os1 h => Put_bad2 x hT h hc hcm hi hj hv hw)
  ·exact no_call (by rw [e]) hS hk (fun os1 h => Put_bad3 x hT h hc hcm hi hj hv hw (by
    have : ¬ ((j : Int) + x.width ≤ cols) := fun hh => h2 ⟨hv, hw, hh⟩
    omega))
end
end Go.Proofs.YtdndoikgnohkkaaDoor

namespace Go.Proofs.YtdndoikgnohkkaaDoor
open Go.RowKit

structure RowC (cs : List Cell) (k : Nat) : Prop where
 ok : (cAt cs k).ok = true
 zero : (cAt cs k).width = 0 ↔ 1 ≤ k ∧ (cAt cs (k - 1)).width = 2
 pen : 1 ≤ k → (cAt cs (k - 1)).width = 2 → (cAt cs k).pen = (cAt cs (k - 1)).pen
 last : (cAt cs k).width = 2 → k + 1 < cs.length
def RowV (cs : List Cell) : Prop := ∀ k, k < cs.length → RowC cs k
theorem behind_is (cs : List Cell) (k : Nat) : behindAt cs k = true ↔ 1 ≤ k ∧ (cAt cs (k - 1)).width = 2 := by
 cases k with
 | zero => simp [behindAt]
 | succ k => simp [behindAt]
theorem rowAt_is {cs : List Cell} {k : Nat} (hk : k < cs.length) : rowAt cs k = true ↔ RowC cs k := by
 have hb := behind_is cs k
 unfold rowAt
 constructor
 ·intro h
  simp only [Bool.and_eq_true, Bool.not_eq_true', Bool.or_eq_true, beq_iff_eq, decide_eq_true_eq] at h
  obtain ⟨⟨⟨h1, h2⟩, h3⟩, h4⟩ := h
  refine ⟨h1, ?_, ?_, ?_⟩
  ·rw [← hb, ← h2, decide_eq_true_eq]
  ·intro a b
   rcases h3 with h3 | h3
   ·have := hb.2 ⟨a, b⟩; rw [h3] at this; cases this
   ·exact h3
  ·intro a
   rcases Nat.lt_or_ge (k + 1) cs.length with h5 | h5
   ·exact h5
   ·have e : k + 1 = cs.length := by omega
    simp [a, e] at h4
 ·rintro ⟨h1, h2, h3, h4⟩
  simp only [Bool.and_eq_true, Bool.not_eq_true', Bool.or_eq_true, beq_iff_eq, decide_eq_true_eq]
  refine ⟨⟨⟨h1, ?_⟩, ?_⟩, ?_⟩
  ·rw [Bool.eq_iff_iff, decide_eq_true_eq, hb]; exact h2
  ·cases hbb : behindAt cs k with
   | false => exact .inl rfl
   | true => obtain ⟨a, b⟩ := hb.1 hbb; exact .inr (h3 a b)
  ·rw [Bool.and_eq_false_iff]
   by_cases a : (cAt cs k).width = 2
   ·exact .inr (by have := h4 a; simp; omega)
   ·exact .inl (by simpa using a)
theorem rowOk_is {cs : List Cell} : rowOk cs = true ↔ RowV cs := by
 constructor
 ·intro h k hk; exact (rowAt_is hk).1 (rowOk_at h hk)
 ·intro h; exact rowOk_yes fun k hk => (rowAt_is hk).2 (h k hk)
theorem ok_penV {c : Cell} (h : c.ok = true) : c.pen.ok = true := by unfold Cell.ok at h; rw [Bool.and_eq_true] at h; exact h.1
theorem blank_ok' {p : Pen} (h : p.ok = true) : (blank p).ok = true := by rw [ok_blank]; exact h
theorem spacer_ok {p : Pen} (h : p.ok = true) : (spacer p).ok = true := by simp [Cell.ok, spacer, h, Cell.noMarks]
section
variable {cs : List Cell} {c j k : Nat} {x : Cell} {q : Pen}
theorem RowV.brk (h : RowV cs) (c : Nat) : RowV (brk c cs) := by
 intro k hk
 rw [brk_length] at hk
 have hg := cAt_brk c cs
 by_cases hc : 1 ≤ c ∧ c < cs.length ∧ (cAt cs (c - 1)).width = 2
 ·have h0 := h k hk
  have h1 := h (c - 1) (by omega)
  have h2 := h c hc.2.1
  refine ⟨?_, ?_, ?_, ?_⟩
  ·rw [hg]; split
   ·exact blank_ok' (ok_penV h0.ok)
   ·exact h0.ok
  ·rw [hg, hg]
   have z0 := h0.zero
   have z1 := h1.zero
   have z2 := h2.zero
   have w0 : ∀ p, (blank p).width = 1 := fun _ => rfl
   grind
  ·rw [hg, hg]
   have z0 := h0.pen
   have w0 : ∀ p, (blank p).width = 1 := fun _ => rfl
   have w1 : ∀ p, (blank p).pen = p := fun _ => rfl
   grind
  ·rw [hg, brk_length]
   have z0 := h0.last
   have w0 : ∀ p, (blank p).width = 1 := fun _ => rfl
   grind
 ·have e : ∀ i, cAt (Proofs.YtdndoikgnohkkaaDoor.brk c cs) i = cAt cs i := fun i => by rw [hg, if_neg (fun a => hc a.1)]
  have h0 := h k hk
  exact ⟨by rw [e]; exact h0.ok, by rw [e, e]; exact h0.zero, by rw [e, e]; exact h0.pen, by rw [e, brk_length]; exact h0.last⟩
def CutAt (cs : List Cell) (c : Nat) : Prop := 1 ≤ c → c < cs.length → ¬ (cAt cs (c - 1)).width = 2
theorem cut_brk (c : Nat) (cs : List Cell) : CutAt (brk c cs) c := fun h1 h2 => brk_before h1 (by rwa [brk_length] at h2)
theorem CutAt.brk (h : CutAt cs j) (c : Nat) : CutAt (brk c cs) j := fun h1 h2 => by
 rw [brk_length] at h2
 rw [cAt_brk]
 split
 ·simp [blank]
 ·exact h h1 h2
theorem RowV.put (h : RowV cs) (hx : x.ok = true) (hw : x.width = 1 ∨ x.width = 2) (hj : (j : Int) + x.width ≤ cs.length) : RowV (putC j x cs) := by
 obtain ⟨b, hb⟩ : ∃ b, b = Proofs.YtdndoikgnohkkaaDoor.brk (j + x.width.toNat) (Proofs.YtdndoikgnohkkaaDoor.brk j cs) := ⟨_, rfl⟩
 have hbl : b.length = cs.length := by rw [hb, brk_length, brk_length]
 have hv : RowV b := by rw [hb]; exact (h.brk j).brk _
 have hc1 : CutAt b j := by rw [hb]; exact (cut_brk j cs).brk _
 have hc2 : CutAt b (j + x.width.toNat) := by rw [hb]; exact cut_brk _ _
 have hg : ∀ i, cAt (putC j x cs) i = if x.width = 2 ∧ i = j + 1 ∧ j + 1 < cs.length then spacer x.pen else if i = j then x else cAt b i := fun i => by
  unfold putC
  simp only [← hb]
  by_cases h2 : x.width = 2
  ·rw [if_pos h2, cAt_set, cAt_set, List.length_set, hbl]; grind
  ·rw [if_neg h2, cAt_set, hbl]; grind
 intro k hk
 rw [putC_length] at hk
 have hk2 : k < b.length := by omega
 have h0 := hv k hk2
 have w0 : ∀ p, (spacer p).width = 0 := fun _ => rfl
 have w1 : ∀ p, (spacer p).pen = p := fun _ => rfl
 have z0 := h0.zero
 have z1 := h0.pen
 have z2 := h0.last
 unfold CutAt at hc1 hc2
 have hxw : x.width.toNat = 1 ∨ x.width.toNat = 2 := by omega
 refine ⟨?_, ?_, ?_, ?_⟩
 ·rw [hg]; split
  ·exact spacer_ok (ok_penV hx)
  ·split
   ·exact hx
   ·exact h0.ok
 ·rw [hg, hg]
  rcases hw with hw | hw
  ·have e : x.width.toNat = 1 := by omega
   rw [e] at hc2
   grind
  ·have e : x.width.toNat = 2 := by omega
   rw [e] at hc2
   grind
 ·rw [hg, hg]
  rcases hw with hw | hw
  ·grind
  ·grind
 ·rw [hg, putC_length]
  rcases hw with hw | hw
  ·grind
  ·grind
theorem RowV.clear {f t : Nat} (h : RowV cs) (hq : q.ok = true) (ht : t ≤ cs.length) : RowV (clearC f t q cs) := by
 by_cases hft : f < t
 case neg => unfold clearC; rw [if_neg hft]; exact h
 obtain ⟨b, hb⟩ : ∃ b, b = Proofs.YtdndoikgnohkkaaDoor.brk t (Proofs.YtdndoikgnohkkaaDoor.brk f cs) := ⟨_, rfl⟩
 have hbl : b.length = cs.length := by rw [hb, brk_length, brk_length]
 have hv : RowV b := by rw [hb]; exact (h.brk f).brk _
 have hc1 : CutAt b f := by rw [hb]; exact (cut_brk f cs).brk _
 have hc2 : CutAt b t := by rw [hb]; exact cut_brk _ _
 have hg : ∀ i, i < cs.length → cAt (clearC f t q cs) i = if f ≤ i ∧ i < t then blank q else cAt b i := fun i hi => by
  unfold clearC
  rw [if_pos hft, ← hb]
  rw [cAt_wipe (by rw [hbl]; omega), show f + (t - f) = t by omega]
 intro k hk
 rw [clearC_length ht] at hk
 have h0 := hv k (by omega)
 have w0 : ∀ p, (blank p).width = 1 := fun _ => rfl
 have z0 := h0.zero
 have z1 := h0.pen
 have z2 := h0.last
 have hgk := hg k hk
 have hgk1 : 1 ≤ k → cAt (clearC f t q cs) (k - 1) = if f ≤ k - 1 ∧ k - 1 < t then blank q else cAt b (k - 1) := fun _ => hg (k - 1) (by omega)
 unfold CutAt at hc1 hc2
 refine ⟨?_, ?_, ?_, ?_⟩
 ·rw [hgk]; split
  ·exact blank_ok' hq
  ·exact h0.ok
 ·rw [hgk]; grind
 ·rw [hgk]; grind
 ·rw [hgk, clearC_length ht]; grind
theorem RowV.shiftR (h : RowV cs) (hq : q.ok = true) (hjk : j + k ≤ cs.length) (hk0 : 0 < k) : RowV (shiftR j k q cs) := by
 obtain ⟨b, hb⟩ : ∃ b, b = Proofs.YtdndoikgnohkkaaDoor.brk (cs.length - k) (Proofs.YtdndoikgnohkkaaDoor.brk j cs) := ⟨_, rfl⟩
 have hbl : b.length = cs.length := by rw [hb, brk_length, brk_length]
 have hv : RowV b := by rw [hb]; exact (h.brk j).brk _
 have hc1 : CutAt b j := by rw [hb]; exact (cut_brk j cs).brk _
 have hc2 : CutAt b (cs.length - k) := by rw [hb]; exact cut_brk _ _
 have hg : ∀ i, i < cs.length → cAt (Proofs.YtdndoikgnohkkaaDoor.shiftR j k q cs) i = if i < j then cAt b i else if i < j + k then blank q else cAt b (i - k) := fun i hi => by rw [cAt_shiftR hjk hi, ← hb]
 intro i hi
 rw [shiftR_length hjk] at hi
 have w0 : ∀ p, (blank p).width = 1 := fun _ => rfl
 have hgi := hg i hi
 have hgi1 : 1 ≤ i → cAt (Proofs.YtdndoikgnohkkaaDoor.shiftR j k q cs) (i - 1) = if i - 1 < j then cAt b (i - 1) else if i - 1 < j + k then blank q else cAt b (i - 1 - k) := fun _ => hg (i - 1) (by omega)
 unfold CutAt at hc1 hc2
 by_cases h1 : i < j
 ·have h0 := hv i (by omega)
  rw [if_pos h1] at hgi
  have e1 : 1 ≤ i → cAt (Proofs.YtdndoikgnohkkaaDoor.shiftR j k q cs) (i - 1) = cAt b (i - 1) := fun a => by rw [hgi1 a, if_pos (by omega)]
  refine ⟨by rw [hgi]; exact h0.ok, ?_, ?_, ?_⟩
  ·rw [hgi]; have := h0.zero; grind
  ·rw [hgi]; have := h0.pen; grind
  ·rw [hgi, shiftR_length hjk]; have := h0.last; grind
 rw [if_neg h1] at hgi
 by_cases h2 : i < j + k
 ·rw [if_pos h2] at hgi
  refine ⟨by rw [hgi]; exact blank_ok' hq, ?_, ?_, ?_⟩
  ·rw [hgi]; grind
  ·rw [hgi]; grind
  ·rw [hgi]; intro a; cases a
 rw [if_neg h2] at hgi
 have h0 := hv (i - k) (by omega)
 have z0 := h0.zero
 have z1 := h0.pen
 have z2 := h0.last
 by_cases h3 : i = j + k
 ·subst h3
  have e1 : cAt (Proofs.YtdndoikgnohkkaaDoor.shiftR j k q cs) (j + k - 1) = blank q := by rw [hgi1 (by omega), if_neg (by omega), if_pos (by omega)]
  rw [show j + k - k = j by omega] at hgi h0 z0 z1 z2
  refine ⟨by rw [hgi]; exact h0.ok, ?_, ?_, ?_⟩
  ·rw [hgi, e1]; grind
  ·rw [hgi, e1]; grind
  ·rw [hgi, shiftR_length hjk]; grind
 ·have e1 : cAt (Proofs.YtdndoikgnohkkaaDoor.shiftR j k q cs) (i - 1) = cAt b (i - k - 1) := by rw [hgi1 (by omega), if_neg (by omega), if_neg (by omega)]; congr 1; omega
  refine ⟨by rw [hgi]; exact h0.ok, ?_, ?_, ?_⟩
  ·rw [hgi, e1]; grind
  ·rw [hgi, e1]; grind
  ·rw [hgi, shiftR_length hjk]; grind
theorem RowV.shiftL (h : RowV cs) (hq : q.ok = true) (hjk : j + k ≤ cs.length) (hk0 : 0 < k) : RowV (shiftL j k q cs) := by
 obtain ⟨b, hb⟩ : ∃ b, b = Proofs.YtdndoikgnohkkaaDoor.brk (j + k) (Proofs.YtdndoikgnohkkaaDoor.brk j cs) := ⟨_, rfl⟩
 have hbl : b.length = cs.length := by rw [hb, brk_length, brk_length]
 have hv : RowV b := by rw [hb]; exact (h.brk j).brk _
 have hc1 : CutAt b j := by rw [hb]; exact (cut_brk j cs).brk _
 have hc2 : CutAt b (j + k) := by rw [hb]; exact cut_brk _ _
 have hg : ∀ i, i < cs.length → cAt (Proofs.YtdndoikgnohkkaaDoor.shiftL j k q cs) i = if i < j then cAt b i else if i < cs.length - k then cAt b (i + k) else blank q := fun i hi => by rw [cAt_shiftL hjk hi, ← hb]
 intro i hi
 rw [shiftL_length hjk] at hi
 have w0 : ∀ p, (blank p).width = 1 := fun _ => rfl
 have hgi := hg i hi
 have hgi1 : 1 ≤ i → cAt (Proofs.YtdndoikgnohkkaaDoor.shiftL j k q cs) (i - 1) = if i - 1 < j then cAt b (i - 1) else if i - 1 < cs.length - k then cAt b (i - 1 + k) else blank q := fun _ => hg (i - 1) (by omega)
 unfold CutAt at hc1 hc2
 by_cases h1 : i < j
 ·have h0 := hv i (by omega)
  rw [if_pos h1] at hgi
  have e1 : 1 ≤ i → cAt (Proofs.YtdndoikgnohkkaaDoor.shiftL j k q cs) (i - 1) = cAt b (i - 1) := fun a => by rw [hgi1 a, if_pos (by omega)]
  refine ⟨by rw [hgi]; exact h0.ok, ?_, ?_, ?_⟩
  ·rw [hgi]; have := h0.zero; grind
  ·rw [hgi]; have := h0.pen; grind
  ·rw [hgi, shiftL_length hjk]; have := h0.last; grind
 rw [if_neg h1] at hgi
 by_cases h2 : i < cs.length - k
 ·rw [if_pos h2] at hgi
  have h0 := hv (i + k) (by omega)
  have z0 := h0.zero
  have z1 := h0.pen
  have z2 := h0.last
  by_cases h3 : i = j
  ·subst h3
   have e1 : 1 ≤ i → cAt (Proofs.YtdndoikgnohkkaaDoor.shiftL i k q cs) (i - 1) = cAt b (i - 1) := fun a => by rw [hgi1 a, if_pos (by omega)]
   refine ⟨by rw [hgi]; exact h0.ok, ?_, ?_, ?_⟩
   ·rw [hgi]; grind
   ·rw [hgi]; grind
   ·rw [hgi, shiftL_length hjk]; grind
  ·have e1 : cAt (Proofs.YtdndoikgnohkkaaDoor.shiftL j k q cs) (i - 1) = cAt b (i + k - 1) := by rw [hgi1 (by omega), if_neg (by omega), if_pos (by omega)]; congr 1; omega
   refine ⟨by rw [hgi]; exact h0.ok, ?_, ?_, ?_⟩
   ·rw [hgi, e1]; grind
   ·rw [hgi, e1]; grind
   ·rw [hgi, shiftL_length hjk]; grind
 ·rw [if_neg h2] at hgi
  have hl : ¬ (cAt b (cs.length - 1)).width = 2 := fun a => by have := (hv (cs.length - 1) (by omega)).last a; omega
  have e1 : 1 ≤ i → ¬ (cAt (Proofs.YtdndoikgnohkkaaDoor.shiftL j k q cs) (i - 1)).width = 2 := fun a => by
   rw [hgi1 a]
   split
   ·rw [show i - 1 = j - 1 by omega]; exact hc1 (by omega) (by omega)
   ·split
    ·rw [show i - 1 + k = cs.length - 1 by omega]; exact hl
    ·intro e; cases e
  refine ⟨by rw [hgi]; exact blank_ok' hq, ?_, ?_, ?_⟩
  ·rw [hgi]; grind
  ·rw [hgi]; grind
  ·rw [hgi]; intro a; cases a
end
def AllV (L : List Ln) : Prop := ∀ l ∈ L, RowV l.1
theorem AllV.lnMod {L : List Ln} (h : AllV L) (i : Nat) {F : Ln → Ln} (hF : ∀ l : Ln, l ∈ L → RowV (F l).1) : AllV (lnMod i F L) := by
 unfold Proofs.YtdndoikgnohkkaaDoor.lnMod
 split
 ·rename_i l hl
  intro x hx
  rcases List.mem_or_eq_of_mem_set hx with h1 | rfl
  ·exact h x h1
  ·exact hF l (List.mem_of_getElem? hl)
 ·exact h
theorem rowV_blanks {n : Nat} {q : Pen} (hq : q.ok = true) : RowV (List.replicate n (blank q)) := fun k hk => by
 rw [List.length_replicate] at hk
 have e : ∀ i, i < n → cAt (List.replicate n (blank q)) i = blank q := fun i hi => by rw [cAt_eq (by simpa using hi)]; simp
 refine ⟨by rw [e k hk]; exact blank_ok' hq, ?_, ?_, ?_⟩
 ·rw [e k hk]
  constructor
  ·intro a; cases a
  ·rintro ⟨a, b⟩; rw [e (k - 1) (by omega)] at b; cases b
 ·intro a b; rw [e (k - 1) (by omega)] at b; cases b
 ·rw [e k hk]; intro a; cases a
end Go.Proofs.YtdndoikgnohkkaaDoor

namespace Go.Proofs.YtdndoikgnohkkaaDoor
open Go.RowKit

section
variable {j k cols : Nat} {x : Cell} {cs : List Cell} {ins : Bool}
end
end Go.Proofs.YtdndoikgnohkkaaDoor

namespace Go.Proofs.YtdndoikgnohkkaaDoor
open Go.RowKit

section
variable {cs : List Cell} {j k cols : Nat} {x : Cell} {q : Pen} {n : Int}
theorem RowV.shiftN (h : RowV cs) (hq : q.ok = true) (hl : cs.length = cols) (hj : j < cols) : RowV (shiftN j cols n q cs) := by
 unfold Proofs.YtdndoikgnohkkaaDoor.shiftN
 by_cases h0 : n = 0
 ·rw [if_pos h0]; exact h
 rw [if_neg h0]
 split
 ·exact h.shiftR hq (by omega) (by omega)
 ·exact h.shiftL hq (by omega) (by omega)
end
section
variable {top bot cols : Nat} {n : Int} {q : Pen} {L : List Ln}
theorem AllV.roll (h : AllV L) (hq : q.ok = true) (htb : top ≤ bot) (hbl : bot < L.length) : AllV (rollL top bot n q cols L) := fun l hl => by
 obtain ⟨r, hr, rfl⟩ := List.getElem_of_mem hl
 have h1 := rollL_get (n := n) (q := q) (cols := cols) htb hbl r
 rw [List.getElem?_eq_getElem hr] at h1
 have hm : ∀ (o : Option Ln) (p : Prop) [Decidable p] (x : Ln), (∀ y : Ln, o = some y → RowV y.1) → some x = o.map (hardIf p) → RowV x.1 := fun o p _ x ho h => by
  cases o with
  | none => simp at h
  | some y => simp only [Option.map_some, Option.some.injEq] at h; subst h; unfold hardIf; split <;> exact ho y rfl
 have hL : ∀ (i : Nat) (y : Ln), L[i]? = some y → RowV y.1 := fun i y hy => h y (List.mem_of_getElem? hy)
 have hfr : ∀ x : Ln, some x = some (freshLn cols q) → RowV x.1 := fun x e => by simp only [Option.some.injEq] at e; rw [e]; exact rowV_blanks hq
 by_cases hn : n = 0
 ·unfold rollAt at h1; rw [if_pos hn] at h1; exact hL r _ h1.symm
 by_cases ho : r < top ∨ bot < r
 ·rw [rollAt_out hn ho] at h1; exact hm _ _ _ (hL r) h1
 by_cases hp : 0 < n
 ·by_cases h2 : r + rollK n (bot + 1 - top) ≤ bot
  ·rw [rollAt_up hp rfl ho h2] at h1; exact hm _ _ _ (hL _) h1
  ·rw [rollAt_upf hp rfl ho h2] at h1; exact hfr _ h1
 ·have hn2 : n < 0 := by omega
  by_cases h2 : r < top + rollK n (bot + 1 - top)
  ·rw [rollAt_dnf hn2 rfl ho h2] at h1; exact hfr _ h1
  ·rw [rollAt_dn hn2 rfl ho h2] at h1; exact hm _ _ _ (hL _) h1
end
end Go.Proofs.YtdndoikgnohkkaaDoor

namespace Go.Proofs.YtdndoikgnohkkaaDoor
open Go.RowKit

theorem ok_row {l : List Cell} (h : lineOk l = true) : rowOk l = true := by simp [lineOk] at h; exact h.2
theorem ok_of_row {l : List Cell} (h : RowV l) (hn : l.length ≤ 1000) : lineOk l = true := by simp [lineOk, rowOk_is.2 h, hn]
theorem AllV.rowMod {L : List Ln} (h : AllV L) (i : Nat) {f : List Cell → List Cell} (hf : ∀ l : Ln, l ∈ L → RowV (f l.1)) : AllV (rowMod i f L) := by
 rw [rowMod_is]; exact h.lnMod i hf
theorem AllV.softMod {L : List Ln} (h : AllV L) (i : Nat) (s : Bool) : AllV (softMod i s L) := by
 rw [softMod_is]; exact h.lnMod i (fun l hl => h l hl)
theorem AllV.set {L : List Ln} (h : AllV L) (i : Nat) {l : Ln} (hl : RowV l.1) : AllV (L.set i l) := fun x hx => by
 rcases List.mem_or_eq_of_mem_set hx with h1 | rfl
 ·exact h x h1
 ·exact hl
theorem allV_new (rows cols : Nat) {q : Pen} (hq : q.ok = true) : AllV (List.replicate rows (List.replicate cols (blank q), false)) := fun l hl => by
 rw [(List.mem_replicate.1 hl).2]; exact rowV_blanks hq
theorem AllV.lineOk {L : List Ln} {cols : Nat} (h : AllV L) (hR : Rect cols L) (hcm : cols ≤ 1000) : ∀ l ∈ L, lineOk l.1 = true := fun l hl => ok_of_row (h l hl) (by rw [hR l hl]; exact hcm)
theorem act14N_all {a : Act14} {cols : Nat} {L : List Ln} (hR : Rect cols L) (h : AllV L) : AllV (act14N a cols L) := by
 unfold act14N
 split
 ·split
  ·next hp =>
   obtain ⟨i, j, e1, e2, h1, h2, h3, h4, h5⟩ := putE_yes hp
   exact h.rowMod _ (fun l hl => (h l hl).put h3 (ok_w12 h3 h4) (by rw [hR l hl, e2]; simpa using h5))
  ·exact h
 split
 ·split
  ·next hp =>
   obtain ⟨i, f, t, e1, e2, e3, h1, h2, h3, h4⟩ := clrE_yes hp
   exact h.rowMod _ (fun l hl => (h l hl).clear h4 (by rw [hR l hl, e3]; simpa using h3))
  ·exact h
 split
 ·split
  ·next hp =>
   obtain ⟨i, j, e1, e2, h1, h2, h3⟩ := shfE_yes hp
   exact h.rowMod _ (fun l hl => (h l hl).shiftN h3 (hR l hl) (by rw [e2]; simpa using h2))
  ·exact h
 split
 ·split
  ·next hp =>
   obtain ⟨i, e1, h1, h2⟩ := setE_yes hp
   exact h.set _ (rowOk_is.1 (fit_row _ (ok_row h2)))
  ·exact h
 split
 ·split
  ·exact h.softMod _ _
  ·exact h
 split
 ·split
  ·next hp =>
   obtain ⟨t, b, e1, e2, h1, h2, h3⟩ := rolE_yes hp
   rw [e1, e2]
   exact h.roll h3 h1 h2
  ·exact h
 exact h
end Go.Proofs.YtdndoikgnohkkaaDoor

namespace Go.Proofs.YtdndoikgnohkkaaDoor
open Go.RowKit

def K24 (s rr : Nat) (L : List Ln) : Prop := Rect s L ∧ L.length = rr ∧ AllV L
theorem k24_new (s rr : Nat) : K24 s rr (List.replicate rr (List.replicate s (blank pen0), false)) := ⟨fun l hl => by rw [(List.mem_replicate.1 hl).2]; simp, by simp, allV_new rr s (by decide +kernel)⟩
structure Pr where
 cols : Nat
 M : List Ln
 O : List Ln
 mode : Int
 kept : Option Saved
structure Pr.good (s : Pr) (rr : Nat) : Prop where
 c0 : 0 < s.cols
 cm : s.cols ≤ 1000
 r0 : 0 < rr
 rm : rr ≤ 1000
 M : K24 s.cols rr s.M
 O : K24 s.cols rr s.O
def Pr.U (s : Pr) : List Ln := if s.mode = 0 then s.M else s.O
theorem Pr.good.U {s : Pr} {rr : Nat} (h : s.good rr) : K24 s.cols rr s.U := by
 unfold Pr.U
 split
 ·exact h.M
 ·exact h.O
def used24 (m : Int) : Int := if m = 0 then 0 else 1
def keptIs (kv : Value) (ko : Ob) : Option Saved → Prop
 | none => kv = .pointer none
 | some x => ∃ kp, kv = .pointer (some ⟨kp, 0, none⟩) ∧ ko = .box kp 35 (sv x)
def pairL (p : Nat) (s : Pr) (g m : Nat) (kv : Value) (ko : Ob) : List Ob := [.box p 44 #[.pointer (some ⟨g, 0, none⟩), .pointer (some ⟨m, 0, none⟩), .int .i64 (used24 s.mode), .int .i64 s.mode, kv], .grid g 83 s.cols s.M, .grid m 83 s.cols s.O, ko]
def pairQ (p : Nat) (s : Pr) (xs : List Ob) : Prop := ∃ g m kv ko, keptIs kv ko s.kept ∧ xs = pairL p s g m kv ko
def pairO (p : Nat) (s : Pr) : Ob := .gen (many (pairQ p s))
section
variable {w0 w : World} {os : List Ob} {p : Nat} {s : Pr}
theorem Objs.openPair (h : Objs w0 w (pairO p s :: os)) : ∃ g m kv ko, keptIs kv ko s.kept ∧ Objs w0 w (.box p 44 #[.pointer (some ⟨g, 0, none⟩), .pointer (some ⟨m, 0, none⟩), .int .i64 (used24 s.mode), .int .i64 s.mode, kv] :: .grid g 83 s.cols s.M :: .grid m 83 s.cols s.O :: ko :: os) := by
 obtain ⟨xs, ⟨g, m, kv, ko, hk, rfl⟩, hS⟩ := h.unpack
 exact ⟨g, m, kv, ko, hk, hS⟩
theorem Objs.closePair {g m : Nat} {kv : Value} {ko : Ob} (h : Objs w0 w (.box p 44 #[.pointer (some ⟨g, 0, none⟩), .pointer (some ⟨m, 0, none⟩), .int .i64 (used24 s.mode), .int .i64 s.mode, kv] :: .grid g 83 s.cols s.M :: .grid m 83 s.cols s.O :: ko :: os)) (hk : keptIs kv ko s.kept) : Objs w0 w (pairO p s :: os) :=
 Objs.pack (xs := pairL p s g m kv ko) h ⟨g, m, kv, ko, hk, rfl⟩
theorem pnone_nil (w : World) : Calls Tryd.prog 34 #[.pointer none] w fun e w' => e = .returned (.bool true) ∧ w = w' := by
 go_enter Tryd.func34, Tryd.ntmps34
 go_wp2_with fail
 go_ret
 exact ⟨rfl, rfl⟩
theorem pnone_zero {k : Nat} {a b c d : Value} (hS : Objs w0 w os) (hk : os[k]? = some (.box p 44 #[.pointer none, a, b, c, d])) : Calls Tryd.prog 34 #[.pointer (some ⟨p, 0, none⟩)] w fun e w' => e = .returned (.bool true) ∧ Objs w0 w' os := by
 obtain ⟨hx, hf, hz⟩ := (hS.box hk).facts
 have S := Lib.hid hS
 clear hS
 go_enter Tryd.func34, Tryd.ntmps34
 go_wp2_with fail
 go_ret
 exact ⟨rfl, S.out⟩
theorem pnone_no {k g : Nat} {a b c d : Value} (hS : Objs w0 w os) (hk : os[k]? = some (.box p 44 #[.pointer (some ⟨g, 0, none⟩), a, b, c, d])) : Calls Tryd.prog 34 #[.pointer (some ⟨p, 0, none⟩)] w fun e w' => e = .returned (.bool false) ∧ Objs w0 w' os := by
 obtain ⟨hx, hf, hz⟩ := (hS.box hk).facts
 have S := Lib.hid hS
 clear hS
 go_enter Tryd.func34, Tryd.ntmps34
 go_wp2_with fail
 go_ret
 exact ⟨rfl, S.out⟩
theorem alt_nil (hS : Objs w0 w os) : Calls Tryd.prog 11 #[.pointer none] w fun e w' => e = .returned (.bool false) ∧ Objs w0 w' os := by
 have S := Lib.hid hS
 clear hS
 go_enter Tryd.func11, Tryd.ntmps11
 go_wp2_with fail
 refine (pnone_nil _).mono ?_
 rintro e w1 ⟨rfl, rfl⟩
 go_wp2_with fail
 go_ret
 exact ⟨rfl, S.out⟩
theorem alt_zero {k : Nat} {a b c d : Value} (hS : Objs w0 w os) (hk : os[k]? = some (.box p 44 #[.pointer none, a, b, c, d])) : Calls Tryd.prog 11 #[.pointer (some ⟨p, 0, none⟩)] w fun e w' => e = .returned (.bool false) ∧ Objs w0 w' os := by
 have S := Lib.hid hS
 have HK := Lib.hid hk
 clear hS hk
 go_enter Tryd.func11, Tryd.ntmps11
 go_wp2_with fail
 refine (pnone_zero S.out HK.out).mono ?_
 rintro e w1 ⟨rfl, hS⟩
 have S1 := Lib.hid hS
 clear hS
 go_wp2_with fail
 go_ret
 exact ⟨rfl, S1.out⟩
theorem alt_is {k g : Nat} {a c d : Value} {u : Int} (hu : u = 0 ∨ u = 1) (hS : Objs w0 w os) (hk : os[k]? = some (.box p 44 #[.pointer (some ⟨g, 0, none⟩), a, .int .i64 u, c, d])) : Calls Tryd.prog 11 #[.pointer (some ⟨p, 0, none⟩)] w fun e w' => e = .returned (.bool (decide (u = 1))) ∧ Objs w0 w' os := by
 have S := Lib.hid hS
 have HK := Lib.hid hk
 clear hS hk
 rcases hu with rfl | rfl
 all_goals
  go_enter Tryd.func11, Tryd.ntmps11
  go_wp2_with fail
  refine (pnone_no S.out HK.out).mono ?_
  rintro e w1 ⟨rfl, hS⟩
  obtain ⟨hx, hf, hz⟩ := (hS.box HK.out).facts
  have S1 := Lib.hid hS
  clear hS
  go_wp2_with fail
  go_ret
  exact ⟨rfl, S1.out⟩
theorem mode_nil (hS : Objs w0 w os) : Calls Tryd.prog 12 #[.pointer none] w fun e w' => e = .returned (.int .i64 0) ∧ Objs w0 w' os := by
 have S := Lib.hid hS
 clear hS
 go_enter Tryd.func12, Tryd.ntmps12
 go_wp2_with fail
 go_ret
 exact ⟨rfl, S.out⟩
theorem mode_is {k : Nat} {a b c d : Value} {md : Int} (hS : Objs w0 w os) (hk : os[k]? = some (.box p 44 #[a, b, c, .int .i64 md, d])) : Calls Tryd.prog 12 #[.pointer (some ⟨p, 0, none⟩)] w fun e w' => e = .returned (.int .i64 md) ∧ Objs w0 w' os := by
 obtain ⟨hx, hf, hz⟩ := (hS.box hk).facts
 have S := Lib.hid hS
 clear hS
 go_enter Tryd.func12, Tryd.ntmps12
 go_wp2_with fail
 go_ret
 exact ⟨rfl, S.out⟩
theorem Alternate_any {k : Nat} (hS : Objs w0 w os) (hk : os[k]? = some (pairO p s)) : Calls Tryd.prog 11 #[.pointer (some ⟨p, 0, none⟩)] w fun e w' => e = .returned (.bool (decide (¬ s.mode = 0))) ∧ Objs w0 w' os :=
 no_call rfl hS hk (fun os1 h => by
  obtain ⟨g, m, kv, ko, hK, hO⟩ := h.openPair
  have hu : used24 s.mode = 0 ∨ used24 s.mode = 1 := by unfold used24; split <;> simp
  refine (alt_is hu hO (k := 0) rfl).mono fun e w' ⟨h1, h2⟩ => ⟨?_, h2.closePair hK⟩
  rw [h1]
  congr 2
  unfold used24
  split <;> simp_all)
theorem Mode_any {k : Nat} (hS : Objs w0 w os) (hk : os[k]? = some (pairO p s)) : Calls Tryd.prog 12 #[.pointer (some ⟨p, 0, none⟩)] w fun e w' => e = .returned (.int .i64 s.mode) ∧ Objs w0 w' os :=
 no_call rfl hS hk (fun os1 h => by
  obtain ⟨g, m, kv, ko, hK, hO⟩ := h.openPair
  exact (mode_is hO (k := 0) rfl).mono fun e w' ⟨h1, h2⟩ => ⟨h1, h2.closePair hK⟩)
end
end Go.Proofs.YtdndoikgnohkkaaDoor

namespace Go.Proofs.YtdndoikgnohkkaaDoor
open Go.RowKit

def pickAt (σ : List Ob) : Option Nat → Ob
 | some k => σ.getD k .none
 | none => .none
theorem Objs.pick {w0 w : World} {σ os : List Ob} (h : Objs w0 w (σ ++ os)) (ks : List (Option Nat)) (hn : (ks.filterMap id).Nodup) (hlt : (ks.filterMap id).all (fun k => decide (k < σ.length)) = true) : Objs w0 w (ks.map (pickAt σ) ++ os) := by
 obtain ⟨h1, F, h2, h3, h4, h5⟩ := h
 have hk : ∀ (i k : Nat), ks[i]? = some (some k) → k < σ.length := fun i k hi => by
  have := List.all_eq_true.1 hlt k (List.mem_filterMap.2 ⟨some k, List.mem_of_getElem? hi, rfl⟩)
  simpa using this
 have hinj : ∀ (i j k : Nat), ks[i]? = some (some k) → ks[j]? = some (some k) → i = j := by
  clear hk hlt h2 h3 h4 h5 h1
  induction ks with
  | nil => intro i j k hi; simp at hi
  | cons a r ih =>
   intro i j k hi hj
   have hr : (r.filterMap id).Nodup := by
    cases a with
    | none => simpa using hn
    | some x => simp at hn; exact hn.2
   have hno : ∀ m, a = some m → ∀ q, r[q]? ≠ some (some m) := fun m e q hq => by
    subst e
    simp at hn
    exact hn.1 (List.mem_of_getElem? hq)
   cases i with
   | zero =>
    cases j with
    | zero => rfl
    | succ j => simp at hi hj; exact (hno k hi j hj).elim
   | succ i =>
    cases j with
    | zero => simp at hi hj; exact (hno k hj i hi).elim
    | succ j => simp at hi hj; rw [ih hr i j k hi hj]
 refine ⟨h1, fun i b => if i < ks.length then ∃ k, ks[i]? = some (some k) ∧ F k b else F (i - ks.length + σ.length) b, fun i o hi => ?_, fun i b hb => ?_, fun i hi b hb => ?_, fun i j b hi hj => ?_⟩
 ·by_cases hl : i < ks.length
  ·simp only [hl, if_true]
   rw [List.getElem?_append_left (by simpa using hl), List.getElem?_map] at hi
   cases hks : ks[i]? with
   | none => rw [hks] at hi; simp at hi
   | some x =>
    rw [hks] at hi
    simp only [Option.map_some, Option.some.injEq] at hi
    cases x with
    | none => subst hi; rintro b ⟨k, e, -⟩; simp at e
    | some k =>
     have hlt := hk i k hks
     have hF : (fun b => ∃ k', some (some k) = some (some k') ∧ F k' b) = F k := by
      funext b
      exact propext ⟨fun ⟨k', e, hb⟩ => by simp at e; subst e; exact hb, fun hb => ⟨k, rfl, hb⟩⟩
     rw [hF]
     refine h2 k o ?_
     rw [List.getElem?_append_left hlt, ← hi]
     show σ[k]? = some (σ.getD k .none)
     rw [List.getD_eq_getElem?_getD, List.getElem?_eq_getElem hlt]; rfl
  ·simp only [hl, if_false]
   rw [List.getElem?_append_right (by simp; omega), List.length_map] at hi
   refine h2 _ o ?_
   rw [List.getElem?_append_right (by omega), Nat.add_sub_cancel]; exact hi
 ·simp only at hb
  split at hb
  ·obtain ⟨k, -, hb⟩ := hb; exact h3 _ b hb
  ·exact h3 _ b hb
 ·simp only at hb
  simp only [List.length_append, List.length_map] at hi
  rw [if_neg (by omega)] at hb
  exact h4 _ (by simp; omega) b hb
 ·simp only at hi hj
  split at hi
  ·obtain ⟨k, hks, hi⟩ := hi
   split at hj
   ·obtain ⟨k2, hks2, hj⟩ := hj
    have := h5 _ _ b hi hj
    subst this
    exact hinj i j _ hks hks2
   ·have := h5 _ _ b hi hj
    have := hk i k hks
    omega
  ·rename_i hil
   split at hj
   ·obtain ⟨k2, hks2, hj⟩ := hj
    have := h5 _ _ b hi hj
    have := hk j k2 hks2
    omega
   ·have := h5 _ _ b hi hj
    omega
end Go.Proofs.YtdndoikgnohkkaaDoor

namespace Go.Proofs.YtdndoikgnohkkaaDoor
open Go.RowKit

def laidAt (cs : Array Value) : Nat → List Value → Array Value
 | _, [] => cs
 | o, v :: r => laidAt (cs.setIfInBounds o v) (o + 1) r
theorem Objs.setCells {w0 : World} {g : Nat} {t : TypeId} {k : Nat} : ∀ (vs : List Value) (o : Nat) (w : World) (os : List Ob) (cs : Array Value), Objs w0 w os → os[k]? = some (.box g t cs) → Objs w0 (w.setCells g o vs) (os.set k (.box g t (laidAt cs o vs)))
 | [], o, w, os, cs, h, hk => by show Objs w0 w (os.set k (.box g t cs)); rw [set_self hk]; exact h
 | v :: r, o, w, os, cs, h, hk => by
  have h1 := h.setBox k (i := o) (u := v) hk
  have h2 := Objs.setCells r (o + 1) _ _ _ h1 (List.getElem?_set_self (List.getElem?_eq_some_iff.1 hk).1)
  rw [List.set_set] at h2
  exact h2
def rpv (m o : Nat) (md : Int) (s : Saved) (k : Bool) : Array Value := #[.pointer (some ⟨m, 0, none⟩), .pointer (some ⟨o, 0, none⟩), .int .i64 md, .int .i64 s.row, .int .i64 s.col, .bool s.pend, .int .i64 s.q.fk, .int .u8 s.q.fi, .int .u8 s.q.fr, .int .u8 s.q.fg, .int .u8 s.q.fb, .int .i64 s.q.bk, .int .u8 s.q.bi, .int .u8 s.q.br, .int .u8 s.q.bg, .int .u8 s.q.bb, .int .u8 s.q.fl, .bool s.org, .int .i64 s.s0, .int .i64 s.s1, .int .i64 s.act, .bool k]
@[go_sem] theorem rpv_size (m o : Nat) (md : Int) (s : Saved) (k : Bool) : (rpv m o md s k).size = 22 := by simp [rpv]
@[simp high, go_sem high] theorem rpv_get0 (m o : Nat) (md : Int) (s : Saved) (k : Bool) : (rpv m o md s k)[0]? = some (.pointer (some ⟨m, 0, none⟩)) := by simp [rpv]
@[simp high, go_sem high] theorem rpv_get1 (m o : Nat) (md : Int) (s : Saved) (k : Bool) : (rpv m o md s k)[1]? = some (.pointer (some ⟨o, 0, none⟩)) := by simp [rpv]
@[simp high, go_sem high] theorem rpv_get2 (m o : Nat) (md : Int) (s : Saved) (k : Bool) : (rpv m o md s k)[2]? = some (.int .i64 md) := by simp [rpv]
@[simp high, go_sem high] theorem rpv_get21 (m o : Nat) (md : Int) (s : Saved) (k : Bool) : (rpv m o md s k)[21]? = some (.bool k) := by simp [rpv]
theorem rpv_some {m o : Nat} {md : Int} {s : Saved} {k : Bool} {i : Nat} (h : i < 22) : ((rpv m o md s k)[i]?).isSome = true := by simp [rpv_size, h]
theorem rpv_set2 (m o : Nat) (md n : Int) (s : Saved) (k : Bool) : (rpv m o md s k).setIfInBounds 2 (.int .i64 n) = rpv m o n s k := by simp [rpv]
theorem rpv_set21 (m o : Nat) (md : Int) (s : Saved) (k b : Bool) : (rpv m o md s k).setIfInBounds 21 (.bool b) = rpv m o md s b := by simp [rpv]
theorem rpv_laid (m o : Nat) (md : Int) (s c : Saved) (k : Bool) : laidAt (rpv m o md s k) 3 (sv c).toList = rpv m o md c k := by simp [rpv, sv, laidAt]
theorem Blk.rpair {w : World} {g : Nat} {t : TypeId} {m o : Nat} {md : Int} {s : Saved} {k : Bool} (h : Blk w g t (rpv m o md s k)) : (∀ i, w.cell? ⟨g, i, none⟩ = (rpv m o md s k)[i]?) ∧ (∀ i, w.frozen? ⟨g, i, none⟩ = false) ∧ g < w.heap.size ∧ Proofs.YtdndoikgnohkkaaDoor.recAt w g 3 18 = some (sv s) :=
 ⟨h.cell, h.frozen, h.lt, recAt_of (sv_size s) (fun j v hv => by
  have hj : j < 18 := by have := (List.getElem?_eq_some_iff.1 hv).1; simpa [sv] using this
  have := h.range (3 + j) v (by rw [← hv, ← List.getElem?_drop]; rw [show ((rpv m o md s k).toList.drop 3)[j]? = (((rpv m o md s k).toList.drop 3).take 18)[j]? from by rw [List.getElem?_take, if_pos hj]]; rfl)
  rwa [Nat.zero_add] at this)⟩
theorem store_rpv {w : World} {g : Nat} {t : TypeId} {m o : Nat} {md : Int} {s : Saved} {k : Bool} (h : Blk w g t (rpv m o md s k)) (c : Saved) : (storeCells ⟨g, 3, none⟩ (sv c).toList 0).run Tryd.prog w = .ok () (w.setCells g 3 (sv c).toList) := by
 have := run_storeCells_cells (P := Tryd.prog) g 3 (sv c).toList 0 w (fun j hj => by rw [h.cell]; exact rpv_some (by simp [sv] at hj; omega)) (fun j hj => h.frozen _) (sv_one c)
 simpa using this
theorem Objs.keepRef {w0 w : World} {os : List Ob} {k g : Nat} {t : TypeId} {m o : Nat} {md : Int} {s : Saved} {b : Bool} (h : Objs w0 w os) (hk : os[k]? = some (.box g t (rpv m o md s b))) (c : Saved) : Objs w0 (w.setCells g 3 (sv c).toList) (os.set k (.box g t (rpv m o md c b))) := by
 rw [← rpv_laid m o md s c b]
 exact Objs.setCells _ _ _ _ _ h hk
theorem Objs.keepRef2 {w0 w : World} {os : List Ob} {k g : Nat} {t : TypeId} {m o : Nat} {md : Int} {s : Saved} {b : Bool} (h : Objs w0 w os) (hk : os[k]? = some (.box g t (rpv m o md s b))) (c : Saved) (b2 : Bool) : Objs w0 ((w.setCells g 3 (sv c).toList).setCell ⟨g, 21, none⟩ (.bool b2)) (os.set k (.box g t (rpv m o md c b2))) := by
 have h1 := (h.keepRef hk c).setBox k (i := 21) (u := .bool b2) (List.getElem?_set_self (List.getElem?_eq_some_iff.1 hk).1)
 rw [List.set_set, rpv_set21] at h1
 exact h1
theorem Objs.keptFacts {w0 w : World} {os : List Ob} {k g : Nat} {t : TypeId} {m o : Nat} {md : Int} {s : Saved} {b : Bool} (h : Objs w0 w os) (hk : os[k]? = some (.box g t (rpv m o md s b))) (c : Saved) : (∀ i, (w.setCells g 3 (sv c).toList).cell? ⟨g, i, none⟩ = (rpv m o md c b)[i]?) ∧ (∀ i, (w.setCells g 3 (sv c).toList).frozen? ⟨g, i, none⟩ = false) :=
 have h1 := ((h.keepRef hk c).box (k := k) (List.getElem?_set_self (List.getElem?_eq_some_iff.1 hk).1)).facts
 ⟨h1.1, h1.2.1⟩
def refL (p : Nat) (s : Pr) (m o : Nat) : List Ob := [.box p 103 (rpv m o s.mode (s.kept.getD saved0) s.kept.isSome), .grid m 106 s.cols s.M, .grid o 106 s.cols s.O]
def refQ (p : Nat) (s : Pr) (xs : List Ob) : Prop := ∃ m o, xs = refL p s m o
def refO (p : Nat) (s : Pr) : Ob := .gen (many (refQ p s))
section
variable {w0 w : World} {os : List Ob} {p : Nat} {s : Pr}
theorem Objs.openRef (h : Objs w0 w (refO p s :: os)) : ∃ m o, Objs w0 w (.box p 103 (rpv m o s.mode (s.kept.getD saved0) s.kept.isSome) :: .grid m 106 s.cols s.M :: .grid o 106 s.cols s.O :: os) := by
 obtain ⟨xs, ⟨m, o, rfl⟩, hS⟩ := h.unpack
 exact ⟨m, o, hS⟩
theorem Objs.closeRef {m o : Nat} (h : Objs w0 w (.box p 103 (rpv m o s.mode (s.kept.getD saved0) s.kept.isSome) :: .grid m 106 s.cols s.M :: .grid o 106 s.cols s.O :: os)) : Objs w0 w (refO p s :: os) :=
 Objs.pack (xs := refL p s m o) h ⟨m, o, rfl⟩
end
end Go.Proofs.YtdndoikgnohkkaaDoor

namespace Go.Proofs.YtdndoikgnohkkaaDoor
open Go.RowKit

def blankL (cols : Nat) (q : Pen) : Ln := (List.replicate cols (blank q), false)
def wipeK (cols : Nat) (q : Pen) (k : Nat) (O : List Ln) : List Ln := List.replicate k (blankL cols q) ++ O.drop k
def wipeN (cols : Nat) (q : Pen) (O : List Ln) : List Ln := List.replicate O.length (blankL cols q)
theorem wipeK_zero (cols : Nat) (q : Pen) (O : List Ln) : wipeK cols q 0 O = O := by simp [wipeK]
theorem wipeK_all (cols : Nat) (q : Pen) (O : List Ln) : wipeK cols q O.length O = wipeN cols q O := by simp [wipeK, wipeN]
theorem wipeK_length {cols k : Nat} {q : Pen} {O : List Ln} (h : k ≤ O.length) : (wipeK cols q k O).length = O.length := by simp [wipeK]; omega
theorem wipeN_length (cols : Nat) (q : Pen) (O : List Ln) : (wipeN cols q O).length = O.length := by simp [wipeN]
theorem rect_wipeK {cols k : Nat} {q : Pen} {O : List Ln} (h : Rect cols O) : Rect cols (wipeK cols q k O) := fun l hl => by
 unfold wipeK at hl
 rcases List.mem_append.1 hl with hl | hl
 ·rw [(List.mem_replicate.1 hl).2]; simp [blankL]
 ·exact h l (List.mem_of_mem_drop hl)
theorem clearC_all {cols : Nat} {q : Pen} {cs : List Cell} (h : cs.length = cols) : clearC 0 cols q cs = List.replicate cols (blank q) := by
 unfold clearC
 split
 ·unfold wipeC
  simp [brk_length, h]
 ·rename_i h0
  obtain rfl : cols = 0 := by omega
  simpa using h
theorem wipeK_get {cols k : Nat} {q : Pen} {O : List Ln} {l : Ln} (h : O[k]? = some l) : (wipeK cols q k O)[k]? = some l := by
 unfold wipeK
 rw [List.getElem?_append_right (by simp)]
 simpa using h
theorem wipeK_step {cols k : Nat} {q : Pen} {O : List Ln} (hk : k < O.length) (hR : Rect cols O) : softMod k false (rowMod k (clearC 0 cols q) (wipeK cols q k O)) = wipeK cols q (k + 1) O := by
 obtain ⟨l, hl⟩ := get_of hk
 have hg := wipeK_get (cols := cols) (q := q) hl
 have hlt : k < (wipeK cols q k O).length := by rw [wipeK_length (by omega)]; exact hk
 rw [rowMod_some hg, softMod_some (l := (clearC 0 cols q l.1, l.2)) (by simp [hlt]), List.set_set, clearC_all (hR.at_ hl)]
 show (wipeK cols q k O).set k (blankL cols q) = _
 unfold wipeK
 rw [List.set_append_right _ _ (by simp)]
 simp only [List.length_replicate, Nat.sub_self]
 simp [List.replicate_succ']
 rw [List.drop_eq_getElem_cons hk]
 rfl
theorem K24.wipe {cols rr : Nat} {q : Pen} {O : List Ln} (h : K24 cols rr O) (hq : q.ok = true) : K24 cols rr (wipeN cols q O) :=
 ⟨fun l hl => by rw [(List.mem_replicate.1 hl).2]; simp [blankL], by rw [wipeN_length]; exact h.2.1, allV_new O.length cols hq⟩
section
variable {w0 w : World} {os : List Ob}
set_option maxRecDepth 100000 in
set_option maxHeartbeats 4000000 in
theorem pwipe_front {p m cols : Nat} {a b c d : Value} {O : List Ln} (q : Pen) (hT : Tabs w0) (hS : Objs w0 w (.box p 44 #[a, .pointer (some ⟨m, 0, none⟩), b, c, d] :: .grid m 83 cols O :: os)) (hc : 0 < cols) (hcm : cols ≤ 1000) (hR : Rect cols O) (hO : O.length ≤ 1000) (hq : q.ok = true) :
  Calls Tryd.prog 38 #[.pointer (some ⟨p, 0, none⟩), .agg (pv q)] w fun e w' => e = .returned (.int .i64 0) ∧ Objs w0 w' (.box p 44 #[a, .pointer (some ⟨m, 0, none⟩), b, c, d] :: .grid m 83 cols (wipeN cols q O) :: os) := by
 have S := Lib.hid hS
 have HT := Lib.hid hT
 have HRO := Lib.hid hR
 have HO := Lib.hid hO
 clear hS hT hR hO
 go_enter Tryd.func38, Tryd.ntmps38
 go_upto_region 1 with (fail)
 refine at_objsC (S.out.alloc1 (c1 := pv q) (t1 := 29)) (fun W hW => ?_)
 generalize w.heap.size = b3 at hW ⊢
 have S1 := Lib.hid hW
 clear hW S
 obtain ⟨hx, hf, hz⟩ := (S1.out.box (k := 1) rfl).facts
 go_wp2_with fail
 clear hx hf hz
 refine (Rows_any S1.out (k := 2) rfl).mono ?_
 rintro e w1 ⟨rfl, hS⟩
 have S2 := Lib.hid hS
 clear hS S1
 go_wp2_with fail
 go_loopw [16] (fun x wr => ∃ n : Nat, n ≤ O.length ∧ x = .int .i64 n ∧ Objs w0 wr (.box b3 29 (pv q) :: .box p 44 #[a, .pointer (some ⟨m, 0, none⟩), b, c, d] :: .grid m 83 ↑cols (wipeK cols q n O) :: os)) (fun x _ => O.length - (intOf x).toNat)
 case atStart => exact ⟨0, Nat.zero_le _, rfl, by rw [wipeK_zero]; exact S2.out⟩
 case round =>
  clear S2
  obtain ⟨n, hn, rfl, hS⟩ := hrel
  have S2 := Lib.hid hS
  clear hS
  have hO1 := HO.out
  by_cases hlt : n < O.length
  ·have HR := Lib.hid (rect_wipeK (k := n) (q := q) HRO.out)
   have HN := Lib.hid (show n < (wipeK cols q n O).length by rw [wipeK_length hn]; exact hlt)
   have HST := Lib.hid (wipeK_step (q := q) hlt HRO.out)
   go_upto_region 5 with (fail)
   refine wp_region_stage (w0 := w0) (os := os) (by kernel_rfl) (by kernel_rfl) (by kernel_rfl) [(2, 5, [], fun vs => .grid m 83 ↑cols (rowMod n (clearC 0 cols q) (wipeK cols q n O)))] [[], [], [], [2], [0], [2], []] [.box b3 29 (pv q), .box p 44 #[a, .pointer (some ⟨m, 0, none⟩), b, c, d], .grid m 83 ↑cols (wipeK cols q n O)] (fun opn u => match opn with | 0 => u = .pointer (some ⟨m, 0, none⟩) | 1 => u = .int .i64 ↑n | 2 => u = .pointer (some ⟨m, 0, none⟩) | 3 => u = .int .i64 ↑cols | 4 => u = .agg (pv q) | 5 => u = .int .i64 0 | 6 => u = .int .i64 0 | _ => True) (fun vs => [.box b3 29 (pv q), .box p 44 #[a, .pointer (some ⟨m, 0, none⟩), b, c, d], .grid m 83 ↑cols (rowMod n (clearC 0 cols q) (wipeK cols q n O))]) (by kernel_rfl) (fun vs => by rfl) S2.out ?_ ?_
   ·apply sc
    ·intro a w' vs σ hS hl hs hk
     have f5 : a.tmps[5]?.getD undef = .pointer (some ⟨m, 0, none⟩) := sof hk
     exact rp (pt m 0) (by simp [execOp, Act.eval, f5, go_sem]) hl hs hS
    apply sc
    ·intro a w' vs σ hS hl hs hk
     have f6 : a.tmps[6]?.getD undef = .int .i64 ↑n := sof hk
     exact rp (.int .i64 ↑n) (by simp [execOp, Act.eval, f6, go_sem]) hl hs hS
    apply sc
    ·intro a w' vs σ hS hl hs hk
     have f5 : a.tmps[5]?.getD undef = .pointer (some ⟨m, 0, none⟩) := sof hk
     exact rp (pt m 0) (by simp [execOp, Act.eval, f5, go_sem]) hl hs hS
    apply sc
    ·intro a w' vs σ hS hl hs hk
     have e21 : a.tmps.getD 21 undef = .pointer (some ⟨m, 0, none⟩) := svv hk 2
     exact ro_call (f := 29) (wanted_none rfl) rfl (by simp only [List.map_toArray, List.map_cons, List.map_nil, Act.eval, e21] <;> rfl) (fun _ _ => by kernel_rfl) ((Cols_any hS (k := 2) (sg (hs 2 (by decide)))).mono fun e w2 ⟨h1, h2⟩ => ⟨_, h1, sp_same (by kernel_rfl) hl hs h2 rfl, trivial⟩)
    apply sc
    ·intro a w' vs σ hS hl hs hk
     have f3 : a.tmps[3]?.getD undef = .pointer (some ⟨b3, 0, none⟩) := sof hk
     have hx := (hS.box (sg (hs 0 (by decide)))).penAt
     exact rp (.agg (pv q)) (by simp [execOp, Act.eval, f3, go_sem, hx]) hl hs hS
    apply sc
    ·intro a w' vs σ hS hl hs hk
     have e19 : a.tmps.getD 19 undef = .pointer (some ⟨m, 0, none⟩) := svv hk 0
     have e20 : a.tmps.getD 20 undef = .int .i64 ↑n := svv hk 1
     have e22 : a.tmps.getD 22 undef = .int .i64 ↑cols := svv hk 3
     have e23 : a.tmps.getD 23 undef = .agg (pv q) := svv hk 4
     exact ro_call (f := 66) (wanted_none rfl) rfl (by simp only [List.map_toArray, List.map_cons, List.map_nil, Act.eval, e19, e20, e22, e23] <;> rfl) (fun _ _ => by kernel_rfl) ((ClearG (f := 0) (t := cols) q HT.out hS (k := 2) (sg (hs 2 (by decide))) hc hcm HR.out HN.out hq (Nat.zero_le _) (Nat.le_refl _)).mono fun e w2 ⟨h1, h2⟩ => ⟨_, h1, sp_set 2 (.grid m 83 ↑cols (rowMod n (clearC 0 cols q) (wipeK cols q n O))) (by kernel_rfl) (by simp) (by decide) hl hs (by rfl) h2 rfl, trivial⟩)
    apply sc
    ·intro a w' vs σ hS hl hs hk
     have f24 : a.tmps[24]?.getD undef = .int .i64 0 := sf hk 5
     exact rp (.int .i64 0) (by simp [execOp, Act.eval, f24, go_sem]) hl hs hS
    exact SSteps.nil
   ·intro vs w' hS hv
    have q0 : vs 0 = _ := hv 0 (by decide)
    have q1 : vs 1 = _ := hv 1 (by decide)
    have q2 : vs 2 = _ := hv 2 (by decide)
    have q3 : vs 3 = _ := hv 3 (by decide)
    have q4 : vs 4 = _ := hv 4 (by decide)
    have q5 : vs 5 = _ := hv 5 (by decide)
    have q6 : vs 6 = _ := hv 6 (by decide)
    have S2 := Lib.hid hS
    simp only [putL, Act.put, Nat.zero_add, Nat.reduceAdd, List.setIfInBounds_toArray, List.set_cons_succ, List.set_cons_zero, q0, q1, q2, q3, q4, q5, q6]
    clear hS hv q0 q1 q2 q3 q4 q5 q6
    have S3 := S2
    clear S2
    go_wp2_with fail
    refine (SetSoftG false S3.out (k := 2) rfl hc (by rw [rowMod_length]; exact HN.out) (by rw [rowMod_length, wipeK_length hn]; have := HO.out; omega)).mono ?_
    rintro e w2 ⟨rfl, hS⟩
    have S4 := Lib.hid hS
    clear hS
    go_wp2_with fail
    go_roundw
    case rel => exact ⟨n + 1, by omega, by go_num, by rw [← HST.out]; exact S4.out⟩
    case measure => simp [intOf]; omega
  ·obtain rfl : n = O.length := by omega
   rw [wipeK_all] at S2
   go_wp2_with fail
   go_ret
   exact ⟨rfl, S2.out.tail⟩
theorem pair_call {P : Program} {f : FuncId} {args : Array Value} {k k2 : Nat} {o1 o2 o1' o2' : Ob} {r : Value} (hS : Objs w0 w os) (hk : os[k]? = some o1) (hk2 : os[k2]? = some o2) (hne : k ≠ k2)
  (hc : ∀ rest, Objs w0 w (o1 :: o2 :: rest) → Calls P f args w fun e w' => e = .returned r ∧ Objs w0 w' (o1' :: o2' :: rest)) : Calls P f args w fun e w' => e = .returned r ∧ Objs w0 w' ((os.set k o1').set k2 o2') := by
 have g1 : (o2 :: os.set k2 .none)[k + 1]? = some o1 := by simpa [List.getElem?_set_ne (Ne.symm hne)] using hk
 have g2 : (o2' :: os.set k2 .none)[k + 1]? = some o1 := by simpa [List.getElem?_set_ne (Ne.symm hne)] using hk
 have g3 : (os.set k o1')[k2]? = some o2 := by rw [List.getElem?_set_ne hne]; exact hk2
 refine (hc _ ((hS.lift hk2).lift g1)).mono fun e w' ⟨h1, h2⟩ => ⟨h1, ?_⟩
 have h3 := Objs.lower g2 (show Objs w0 w' (o1' :: (o2' :: os.set k2 .none).set (k + 1) .none) from h2)
 refine Objs.lower g3 ?_
 rw [← List.set_comm _ _ (Ne.symm hne)]
 exact h3
theorem pwipe_at {p m cols k j : Nat} {a b c d : Value} {O : List Ln} (q : Pen) (hT : Tabs w0) (hS : Objs w0 w os) (hk : os[k]? = some (.box p 44 #[a, .pointer (some ⟨m, 0, none⟩), b, c, d])) (hj : os[j]? = some (.grid m 83 cols O)) (hkj : k ≠ j) (hc : 0 < cols) (hcm : cols ≤ 1000) (hR : Rect cols O) (hO : O.length ≤ 1000) (hq : q.ok = true) :
  Calls Tryd.prog 38 #[.pointer (some ⟨p, 0, none⟩), .agg (pv q)] w fun e w' => e = .returned (.int .i64 0) ∧ Objs w0 w' (os.set j (.grid m 83 cols (wipeN cols q O))) := by
 have h := pair_call hS hk hj hkj (fun rest h => pwipe_front q hT h hc hcm hR hO hq)
 rw [set_self hk] at h
 exact h
end
end Go.Proofs.YtdndoikgnohkkaaDoor

namespace Go.Proofs.YtdndoikgnohkkaaDoor
open Go.RowKit

def entE (n : Int) (x : Saved) (q : Pen) (s : Pr) : Int := if ¬ (mode24 n = true ∧ (n = 1049 → x.ok = true ∧ q.ok = true)) then 2 else if ¬ s.mode = 0 then 11 else 0
def entN (n : Int) (x : Saved) (q : Pen) (s : Pr) : Pr := if n = 1049 then { s with mode := n, kept := some x, O := wipeN s.cols q s.O } else { s with mode := n }
theorem ent_cases (n : Int) (x : Saved) (q : Pen) (s : Pr) :
  (mode24 n = false ∧ entE n x q s = 2) ∨ (mode24 n = true ∧ n = 1049 ∧ x.ok = false ∧ entE n x q s = 2) ∨ (mode24 n = true ∧ n = 1049 ∧ x.ok = true ∧ q.ok = false ∧ entE n x q s = 2) ∨
  (mode24 n = true ∧ n = 1049 ∧ x.ok = true ∧ q.ok = true ∧ ¬ s.mode = 0 ∧ entE n x q s = 11) ∨ (mode24 n = true ∧ ¬ n = 1049 ∧ ¬ s.mode = 0 ∧ entE n x q s = 11) ∨
  (mode24 n = true ∧ n = 1049 ∧ x.ok = true ∧ q.ok = true ∧ s.mode = 0 ∧ entE n x q s = 0) ∨ (mode24 n = true ∧ ¬ n = 1049 ∧ s.mode = 0 ∧ entE n x q s = 0) := by
 unfold entE
 cases h1 : mode24 n
 ·exact .inl ⟨rfl, by simp⟩
 by_cases h2 : n = 1049
 ·cases h3 : x.ok
  ·exact .inr (.inl ⟨rfl, h2, rfl, by simp [h2]⟩)
  cases h4 : q.ok
  ·exact .inr (.inr (.inl ⟨rfl, h2, rfl, rfl, by simp [h2]⟩))
  by_cases h5 : s.mode = 0
  ·exact .inr (.inr (.inr (.inr (.inr (.inl ⟨rfl, h2, rfl, rfl, h5, by simp [h5]⟩)))))
  ·exact .inr (.inr (.inr (.inl ⟨rfl, h2, rfl, rfl, h5, by simp [h5]⟩)))
 by_cases h5 : s.mode = 0
 ·exact .inr (.inr (.inr (.inr (.inr (.inr ⟨rfl, h2, h5, by simp [h2, h5]⟩)))))
 ·exact .inr (.inr (.inr (.inr (.inl ⟨rfl, h2, h5, by simp [h2, h5]⟩))))
theorem altKnown_is {n : Int} {b : Bool} (h : mode24 n = b) (w : World) : Calls Tryd.prog 35 #[.int .i64 n] w fun e w' => e = .returned (.bool b) ∧ w = w' := h ▸ altKnown_any n w
section
variable {w0 w : World} {os : List Ob} {p : Nat} {s : Pr}
theorem savedValid_is {x : Saved} {b : Bool} (h : x.ok = b) (hS : Objs w0 w os) : Calls Tryd.prog 36 #[.agg (sv x)] w fun e w' => e = .returned (.bool b) ∧ Objs w0 w' os := h ▸ savedValid_any x hS
theorem altInked_is {q : Pen} {b : Bool} (h : q.ok = b) (hT : Tabs w0) (hS : Objs w0 w os) : Calls Tryd.prog 37 #[.agg (pv q)] w fun e w' => e = .returned (.bool b) ∧ Objs w0 w' os := h ▸ altInked_any q hT hS
set_option maxRecDepth 100000 in
set_option maxHeartbeats 4000000 in
theorem Enter_no (n : Int) (x : Saved) (q : Pen) (hT : Tabs w0) (hS : Objs w0 w (pairO p s :: os)) (hno : ¬ entE n x q s = 0) :
  Calls Tryd.prog 9 #[.pointer (some ⟨p, 0, none⟩), .int .i64 n, .agg (sv x), .agg (pv q)] w fun e w' => e = .returned (.int .i64 (entE n x q s)) ∧ Objs w0 w' (pairO p s :: os) := by
 obtain ⟨g, m, kv, ko, hK, hO⟩ := hS.openPair
 have S := Lib.hid hO
 have HK := Lib.hid hK
 have HT := Lib.hid hT
 clear hS hO hK hT
 rcases ent_cases n x q s with ⟨h1, hE⟩ | ⟨h1, h2, h3, hE⟩ | ⟨h1, h2, h3, h4, hE⟩ | ⟨h1, h2, h3, h4, h5, hE⟩ | ⟨h1, h2, h5, hE⟩ | ⟨-, -, -, -, -, hE⟩ | ⟨-, -, -, hE⟩
 case' inr.inr.inr.inr.inr.inl => exact absurd hE hno
 case' inr.inr.inr.inr.inr.inr => exact absurd hE hno
 case' inl => have H1 := Lib.hid h1; clear h1
 case' inr.inl => have H1 := Lib.hid h1; have b2 := beq_yes h2; have H3 := Lib.hid h3; clear h1 h2 h3
 case' inr.inr.inl => have H1 := Lib.hid h1; have b2 := beq_yes h2; have H3 := Lib.hid h3; have H4 := Lib.hid h4; clear h1 h2 h3 h4
 case' inr.inr.inr.inl => have H1 := Lib.hid h1; have b2 := beq_yes h2; have H3 := Lib.hid h3; have H4 := Lib.hid h4; have HU := Lib.hid (show used24 s.mode = 1 from if_neg h5); clear h1 h2 h3 h4 h5
 case' inr.inr.inr.inr.inl => have H1 := Lib.hid h1; have b2 := beq_no h2; have HU := Lib.hid (show used24 s.mode = 1 from if_neg h5); clear h1 h2 h5
 all_goals
  rw [hE]
  clear hE hno
  go_enter Tryd.func9, Tryd.ntmps9
  go_upto_region 1 with (fail)
  refine at_objsC (S.out.alloc2 (c1 := sv x) (t1 := 35) (c2 := pv q) (t2 := 29)) (fun W hW => ?_)
  generalize w.heap.size + 1 = b7 at hW ⊢
  generalize w.heap.size = b6 at hW ⊢
  have S1 := Lib.hid hW
  clear hW S
  go_wp2_with fail
  refine (pnone_no S1.out (k := 2) rfl).mono ?_
  rintro e w1 ⟨rfl, hS⟩
  have S2 := Lib.hid hS
  clear hS S1
  obtain ⟨hx6, hf6, hz6, hr6, hp6⟩ := (S2.out.box (k := 1) rfl).saved
  obtain ⟨hx, hf, hz⟩ := (S2.out.box (k := 2) rfl).facts
  try rw [HU.out] at hx
  go_wp2_with fail
  refine (altKnown_is H1.out _).mono ?_
  rintro e w2 ⟨rfl, rfl⟩
  go_wp2_with fail
 ·go_ret
  exact ⟨rfl, S2.out.tail.tail.closePair HK.out⟩
 ·refine (savedValid_is H3.out S2.out).mono ?_
  rintro e w2 ⟨rfl, hS⟩
  have S3 := Lib.hid hS
  clear hS S2 hx6 hf6 hz6 hr6 hp6 hx hf hz
  have hp7 := (S3.out.box (k := 0) rfl).penAt
  obtain ⟨hx7, hf7, hz7⟩ := (S3.out.box (k := 0) rfl).facts
  go_wp2_with fail
  refine (altInked_is H4.out HT.out S3.out).mono ?_
  rintro e w2 ⟨rfl, hS⟩
  have S4 := Lib.hid hS
  clear hS S3 hp7 hx7 hf7 hz7
  obtain ⟨hx, hf, hz⟩ := (S4.out.box (k := 2) rfl).facts
  rw [HU.out] at hx
  go_wp2_with fail
  go_ret
  exact ⟨rfl, S4.out.tail.tail.closePair HK.out⟩
 ·refine (savedValid_is H3.out S2.out).mono ?_
  rintro e w2 ⟨rfl, hS⟩
  have S3 := Lib.hid hS
  clear hS S2 hx6 hf6 hz6 hr6 hp6 hx hf hz
  have hp7 := (S3.out.box (k := 0) rfl).penAt
  obtain ⟨hx7, hf7, hz7⟩ := (S3.out.box (k := 0) rfl).facts
  go_wp2_with fail
  refine (altInked_is H4.out HT.out S3.out).mono ?_
  rintro e w2 ⟨rfl, hS⟩
  have S4 := Lib.hid hS
  clear hS S3 hp7 hx7 hf7 hz7
  go_wp2_with fail
  go_ret
  exact ⟨rfl, S4.out.tail.tail.closePair HK.out⟩
 ·refine (savedValid_is H3.out S2.out).mono ?_
  rintro e w2 ⟨rfl, hS⟩
  have S3 := Lib.hid hS
  clear hS S2 hx6 hf6 hz6 hr6 hp6 hx hf hz
  go_wp2_with fail
  go_ret
  exact ⟨rfl, S3.out.tail.tail.closePair HK.out⟩
 ·go_ret
  exact ⟨rfl, S2.out.tail.tail.closePair HK.out⟩
set_option maxRecDepth 100000 in
set_option maxHeartbeats 4000000 in
theorem Enter_yes {rr : Nat} (n : Int) (x : Saved) (q : Pen) (hT : Tabs w0) (hS : Objs w0 w (pairO p s :: os)) (hg : s.good rr) (hyes : entE n x q s = 0) :
  Calls Tryd.prog 9 #[.pointer (some ⟨p, 0, none⟩), .int .i64 n, .agg (sv x), .agg (pv q)] w fun e w' => e = .returned (.int .i64 0) ∧ Objs w0 w' (pairO p (entN n x q s) :: os) := by
 obtain ⟨g, m, kv, ko, hK, hO⟩ := hS.openPair
 have S := Lib.hid hO
 have HK := Lib.hid hK
 have HT := Lib.hid hT
 have HG := Lib.hid hg
 clear hS hO hK hT hg
 rcases ent_cases n x q s with ⟨-, hE⟩ | ⟨-, -, -, hE⟩ | ⟨-, -, -, -, hE⟩ | ⟨-, -, -, -, -, hE⟩ | ⟨-, -, -, hE⟩ | ⟨h1, h2, h3, h4, h5, hE⟩ | ⟨h1, h2, h5, hE⟩
 case' inl => rw [hyes] at hE; cases hE
 case' inr.inl => rw [hyes] at hE; cases hE
 case' inr.inr.inl => rw [hyes] at hE; cases hE
 case' inr.inr.inr.inl => rw [hyes] at hE; cases hE
 case' inr.inr.inr.inr.inl => rw [hyes] at hE; cases hE
 case' inr.inr.inr.inr.inr.inl => have H1 := Lib.hid h1; have b2 := beq_yes h2; have b3 := bne_no h2; have H3 := Lib.hid h3; have H4 := Lib.hid h4; have HU := Lib.hid (show used24 s.mode = 0 from if_pos h5); have HN := Lib.hid (show entN n x q s = { s with mode := n, kept := some x, O := wipeN s.cols q s.O } from if_pos h2); have H9 := Lib.hid (show used24 n = 1 from if_neg (by rw [h2]; decide)); clear h1 h2 h3 h4 h5
 case' inr.inr.inr.inr.inr.inr => have H1 := Lib.hid h1; have b2 := beq_no h2; have b3 := bne_yes h2; have HU := Lib.hid (show used24 s.mode = 0 from if_pos h5); have HN := Lib.hid (show entN n x q s = { s with mode := n } from if_neg h2); have H9 := Lib.hid (show used24 n = 1 from if_neg (by intro h; rw [h] at h1; cases h1)); clear h1 h2 h5
 all_goals
  clear hE hyes
  go_enter Tryd.func9, Tryd.ntmps9
  go_upto_region 1 with (fail)
  refine at_objsC (S.out.alloc2 (c1 := sv x) (t1 := 35) (c2 := pv q) (t2 := 29)) (fun W hW => ?_)
  generalize w.heap.size + 1 = b7 at hW ⊢
  generalize w.heap.size = b6 at hW ⊢
  have S1 := Lib.hid hW
  clear hW S
  go_wp2_with fail
  refine (pnone_no S1.out (k := 2) rfl).mono ?_
  rintro e w1 ⟨rfl, hS⟩
  have S2 := Lib.hid hS
  clear hS S1
  obtain ⟨hx6, hf6, hz6, hr6, hp6⟩ := (S2.out.box (k := 1) rfl).saved
  obtain ⟨hx, hf, hz⟩ := (S2.out.box (k := 2) rfl).facts
  try rw [HU.out] at hx
  go_wp2_with fail
  refine (altKnown_is H1.out _).mono ?_
  rintro e w2 ⟨rfl, rfl⟩
  go_wp2_with fail
 ·go_ret
  refine ⟨rfl, ?_⟩
  rw [HN.out]
  refine Objs.closePair (g := g) (m := m) (kv := kv) (ko := ko) ?_ HK.out
  show Objs w0 _ (.box p 44 #[.pointer (some ⟨g, 0, none⟩), .pointer (some ⟨m, 0, none⟩), .int .i64 (used24 n), .int .i64 n, kv] :: .grid g 83 s.cols s.M :: .grid m 83 s.cols s.O :: ko :: os)
  rw [H9.out]
  exact ((S2.out.setBox 2 (i := 2) (u := .int .i64 1) rfl).setBox 2 (i := 3) (u := .int .i64 n) rfl).tail.tail
 ·refine (savedValid_is H3.out S2.out).mono ?_
  rintro e w2 ⟨rfl, hS⟩
  have S3 := Lib.hid hS
  clear hS S2 hx6 hf6 hz6 hr6 hp6 hx hf hz
  have hp7 := (S3.out.box (k := 0) rfl).penAt
  obtain ⟨hx7, hf7, hz7⟩ := (S3.out.box (k := 0) rfl).facts
  go_wp2_with fail
  refine (altInked_is H4.out HT.out S3.out).mono ?_
  rintro e w2 ⟨rfl, hS⟩
  have S4 := Lib.hid hS
  clear hS S3 hp7 hx7 hf7 hz7
  obtain ⟨hx, hf, hz⟩ := (S4.out.box (k := 2) rfl).facts
  rw [HU.out] at hx
  go_upto_region 11 with (fail)
  refine at_objsC (((S4.out.setBox 2 (i := 2) (u := .int .i64 1) rfl).setBox 2 (i := 3) (u := .int .i64 n) rfl).setBox 2 (i := 4) (u := .pointer (some ⟨b6, 0, none⟩)) rfl) (fun W2 hW => ?_)
  clear hx hf hz S4
  have S5 := Lib.hid (show Objs w0 W2 (.box p 44 #[.pointer (some ⟨g, 0, none⟩), .pointer (some ⟨m, 0, none⟩), .int .i64 1, .int .i64 n, .pointer (some ⟨b6, 0, none⟩)] :: .grid m 83 s.cols s.O :: .grid g 83 s.cols s.M :: .box b6 35 (sv x) :: .box b7 29 (pv q) :: os) from (Objs.pick (σ := [_, _, _, _, _, _]) (os := os) hW [some 2, some 4, some 3, some 1, some 0] (by decide) rfl))
  clear hW
  have hp7 := (S5.out.box (k := 4) rfl).penAt
  obtain ⟨hx7, hf7, hz7⟩ := (S5.out.box (k := 4) rfl).facts
  go_wp2_with fail
  refine (pwipe_front q HT.out S5.out HG.out.c0 HG.out.cm HG.out.O.1 (by rw [HG.out.O.2.1]; exact HG.out.rm) H4.out).mono ?_
  rintro e w3 ⟨rfl, hS⟩
  have S6 := Lib.hid hS
  clear hS S5 hp7 hx7 hf7 hz7
  go_wp2_with fail
  go_ret
  refine ⟨rfl, ?_⟩
  rw [HN.out]
  refine Objs.closePair (g := g) (m := m) (kv := .pointer (some ⟨b6, 0, none⟩)) (ko := .box b6 35 (sv x)) ?_ ⟨b6, rfl, rfl⟩
  show Objs w0 w3 (.box p 44 #[.pointer (some ⟨g, 0, none⟩), .pointer (some ⟨m, 0, none⟩), .int .i64 (used24 n), .int .i64 n, .pointer (some ⟨b6, 0, none⟩)] :: .grid g 83 s.cols s.M :: .grid m 83 s.cols (wipeN s.cols q s.O) :: .box b6 35 (sv x) :: os)
  rw [H9.out]
  exact (Objs.pick (σ := [_, _, _, _, _]) (os := os) S6.out [some 0, some 2, some 1, some 3] (by decide) rfl)
end
end Go.Proofs.YtdndoikgnohkkaaDoor

namespace Go.Proofs.YtdndoikgnohkkaaDoor
open Go.RowKit

def lvE (n : Int) (q : Pen) (s : Pr) : Int := if ¬ (mode24 n = true ∧ (n = 1047 → q.ok = true)) then 2 else if s.mode = 0 then 8 else 0
def lvS (n : Int) (s : Pr) : Option Saved := if n = 1049 then s.kept else none
def lvN (n : Int) (q : Pen) (s : Pr) : Pr := if n = 1047 then { s with mode := 0, O := wipeN s.cols q s.O } else if n = 1049 then { s with mode := 0, kept := none } else { s with mode := 0 }
def keptV (k : Option Saved) : Value := .tuple #[.agg (sv (k.getD saved0)), .bool k.isSome, .int .i64 0]
theorem lv_cases (n : Int) (q : Pen) (s : Pr) :
  (mode24 n = false ∧ lvE n q s = 2) ∨ (mode24 n = true ∧ n = 1047 ∧ q.ok = false ∧ lvE n q s = 2) ∨ (mode24 n = true ∧ n = 1047 ∧ q.ok = true ∧ s.mode = 0 ∧ lvE n q s = 8) ∨ (mode24 n = true ∧ ¬ n = 1047 ∧ s.mode = 0 ∧ lvE n q s = 8) ∨
  (mode24 n = true ∧ n = 1047 ∧ q.ok = true ∧ ¬ s.mode = 0 ∧ lvE n q s = 0) ∨ (mode24 n = true ∧ ¬ n = 1047 ∧ n = 1049 ∧ ¬ s.mode = 0 ∧ lvE n q s = 0) ∨ (mode24 n = true ∧ ¬ n = 1047 ∧ ¬ n = 1049 ∧ ¬ s.mode = 0 ∧ lvE n q s = 0) := by
 unfold lvE
 cases h1 : mode24 n
 ·exact .inl ⟨rfl, by simp⟩
 by_cases h2 : n = 1047
 ·cases h4 : q.ok
  ·exact .inr (.inl ⟨rfl, h2, rfl, by simp [h2]⟩)
  by_cases h5 : s.mode = 0
  ·exact .inr (.inr (.inl ⟨rfl, h2, rfl, h5, by simp [h5]⟩))
  ·exact .inr (.inr (.inr (.inr (.inl ⟨rfl, h2, rfl, h5, by simp [h5]⟩))))
 by_cases h5 : s.mode = 0
 ·exact .inr (.inr (.inr (.inl ⟨rfl, h2, h5, by simp [h2, h5]⟩)))
 by_cases h6 : n = 1049
 ·exact .inr (.inr (.inr (.inr (.inr (.inl ⟨rfl, h2, h6, h5, by simp [h2, h5]⟩)))))
 ·exact .inr (.inr (.inr (.inr (.inr (.inr ⟨rfl, h2, h6, h5, by simp [h2, h5]⟩)))))
theorem at_objsP {w0 w : World} {os : List Ob} {P : Program} {f : Func} {φ : Ending → World → Prop} {x : Exit} {a : Act} (h : Objs w0 w os) (hc : ∀ w', Objs w0 w' os → bodyPost P f φ x a w') : bodyPost P f φ x a w := hc w h
section
variable {w0 w : World} {os : List Ob} {p : Nat} {s : Pr}
set_option maxRecDepth 100000 in
set_option maxHeartbeats 4000000 in
theorem Leave_no (n : Int) (q : Pen) (hT : Tabs w0) (hS : Objs w0 w (pairO p s :: os)) (hno : ¬ lvE n q s = 0) :
  Calls Tryd.prog 23 #[.pointer (some ⟨p, 0, none⟩), .int .i64 n, .agg (pv q)] w fun e w' => e = .returned (.tuple #[.agg (sv saved0), .bool false, .int .i64 (lvE n q s)]) ∧ Objs w0 w' (pairO p s :: os) := by
 obtain ⟨g, m, kv, ko, hK, hO⟩ := hS.openPair
 have S := Lib.hid hO
 have HK := Lib.hid hK
 have HT := Lib.hid hT
 clear hS hO hK hT
 rcases lv_cases n q s with ⟨h1, hE⟩ | ⟨h1, h2, h4, hE⟩ | ⟨h1, h2, h4, h5, hE⟩ | ⟨h1, h2, h5, hE⟩ | ⟨-, -, -, -, hE⟩ | ⟨-, -, -, -, hE⟩ | ⟨-, -, -, -, hE⟩
 case' inr.inr.inr.inr.inl => exact absurd hE hno
 case' inr.inr.inr.inr.inr.inl => exact absurd hE hno
 case' inr.inr.inr.inr.inr.inr => exact absurd hE hno
 case' inl => have H1 := Lib.hid h1; clear h1
 case' inr.inl => have H1 := Lib.hid h1; have b2 := beq_yes h2; have H4 := Lib.hid h4; clear h1 h2 h4
 case' inr.inr.inl => have H1 := Lib.hid h1; have b2 := beq_yes h2; have H4 := Lib.hid h4; have HU := Lib.hid (show used24 s.mode = 0 from if_pos h5); clear h1 h2 h4 h5
 case' inr.inr.inr.inl => have H1 := Lib.hid h1; have b2 := beq_no h2; have HU := Lib.hid (show used24 s.mode = 0 from if_pos h5); clear h1 h2 h5
 all_goals
  rw [hE]
  clear hE hno
  go_enter Tryd.func23, Tryd.ntmps23
  go_upto_region 1 with (fail)
  refine at_objsC (S.out.alloc2 (c1 := pv q) (t1 := 29) (c2 := sv saved0) (t2 := 35)) (fun W hW => ?_)
  generalize w.heap.size + 1 = b6 at hW ⊢
  generalize w.heap.size = b5 at hW ⊢
  have S1 := Lib.hid hW
  clear hW S
  go_wp2_with fail
  refine (pnone_no S1.out (k := 2) rfl).mono ?_
  rintro e w1 ⟨rfl, hS⟩
  have S2 := Lib.hid hS
  clear hS S1
  obtain ⟨hx6, hf6, hz6, hr6, hp6⟩ := (S2.out.box (k := 0) rfl).saved
  have hst6 := fun c => store_sv_row w1 b6 _ c (S2.out.box (k := 0) rfl) rfl
  obtain ⟨hx5, hf5, hz5⟩ := (S2.out.box (k := 1) rfl).facts
  have hp5 := (S2.out.box (k := 1) rfl).penAt
  obtain ⟨hx, hf, hz⟩ := (S2.out.box (k := 2) rfl).facts
  try rw [HU.out] at hx
  go_wp2_with fail
  refine (altKnown_is H1.out _).mono ?_
  rintro e w2 ⟨rfl, rfl⟩
  go_wp2_with fail
 ·refine at_objsP (S2.out.rowBox 0 (ds := sv saved0) rfl) (fun W5 hW => ?_)
  have S5 := Lib.hid hW
  clear hW
  refine bodyPost_ret (results_cell3 Tryd.results23 _ _ b6 35 _ _ rfl (S5.out.box (k := 0) rfl) Tryd.underlying35 rfl (by rw [sv_size]; exact saved_size)) rfl ?_
  exact ⟨rfl, S5.out.tail.tail.closePair HK.out⟩
 ·refine (altInked_is H4.out HT.out S2.out).mono ?_
  rintro e w2 ⟨rfl, hS⟩
  clear hx6 hf6 hz6 hr6 hp6 hst6 hx5 hf5 hz5 hp5 hx hf hz
  have S3 := Lib.hid hS
  clear hS S2
  obtain ⟨hx6, hf6, hz6, hr6, hp6⟩ := (S3.out.box (k := 0) rfl).saved
  have hst6 := fun c => store_sv_row w2 b6 _ c (S3.out.box (k := 0) rfl) rfl
  obtain ⟨hx5, hf5, hz5⟩ := (S3.out.box (k := 1) rfl).facts
  have hp5 := (S3.out.box (k := 1) rfl).penAt
  obtain ⟨hx, hf, hz⟩ := (S3.out.box (k := 2) rfl).facts
  try rw [HU.out] at hx
  go_wp2_with fail
  refine at_objsP (S3.out.rowBox 0 (ds := sv saved0) rfl) (fun W5 hW => ?_)
  have S5 := Lib.hid hW
  clear hW
  refine bodyPost_ret (results_cell3 Tryd.results23 _ _ b6 35 _ _ rfl (S5.out.box (k := 0) rfl) Tryd.underlying35 rfl (by rw [sv_size]; exact saved_size)) rfl ?_
  exact ⟨rfl, S5.out.tail.tail.closePair HK.out⟩
 ·refine (altInked_is H4.out HT.out S2.out).mono ?_
  rintro e w2 ⟨rfl, hS⟩
  clear hx6 hf6 hz6 hr6 hp6 hst6 hx5 hf5 hz5 hp5 hx hf hz
  have S3 := Lib.hid hS
  clear hS S2
  obtain ⟨hx6, hf6, hz6, hr6, hp6⟩ := (S3.out.box (k := 0) rfl).saved
  have hst6 := fun c => store_sv_row w2 b6 _ c (S3.out.box (k := 0) rfl) rfl
  obtain ⟨hx5, hf5, hz5⟩ := (S3.out.box (k := 1) rfl).facts
  have hp5 := (S3.out.box (k := 1) rfl).penAt
  obtain ⟨hx, hf, hz⟩ := (S3.out.box (k := 2) rfl).facts
  try rw [HU.out] at hx
  go_wp2_with fail
  refine at_objsP (S3.out.rowBox 0 (ds := sv saved0) rfl) (fun W5 hW => ?_)
  have S5 := Lib.hid hW
  clear hW
  refine bodyPost_ret (results_cell3 Tryd.results23 _ _ b6 35 _ _ rfl (S5.out.box (k := 0) rfl) Tryd.underlying35 rfl (by rw [sv_size]; exact saved_size)) rfl ?_
  exact ⟨rfl, S5.out.tail.tail.closePair HK.out⟩
 ·refine at_objsP (S2.out.rowBox 0 (ds := sv saved0) rfl) (fun W5 hW => ?_)
  have S5 := Lib.hid hW
  clear hW
  refine bodyPost_ret (results_cell3 Tryd.results23 _ _ b6 35 _ _ rfl (S5.out.box (k := 0) rfl) Tryd.underlying35 rfl (by rw [sv_size]; exact saved_size)) rfl ?_
  exact ⟨rfl, S5.out.tail.tail.closePair HK.out⟩
set_option maxRecDepth 100000 in
set_option maxHeartbeats 4000000 in
theorem Leave_yes {rr : Nat} (n : Int) (q : Pen) (hT : Tabs w0) (hS : Objs w0 w (pairO p s :: os)) (hg : s.good rr) (hyes : lvE n q s = 0) :
  Calls Tryd.prog 23 #[.pointer (some ⟨p, 0, none⟩), .int .i64 n, .agg (pv q)] w fun e w' => e = .returned (keptV (lvS n s)) ∧ Objs w0 w' (pairO p (lvN n q s) :: os) := by
 obtain ⟨g, m, kv, ko, hK, hO⟩ := hS.openPair
 have S := Lib.hid hO
 have HK := Lib.hid hK
 have HT := Lib.hid hT
 clear hS hO hK hT
 have HG := Lib.hid hg
 clear hg
 rcases lv_cases n q s with ⟨-, hE⟩ | ⟨-, -, -, hE⟩ | ⟨-, -, -, -, hE⟩ | ⟨-, -, -, hE⟩ | ⟨h1, h2, h4, h5, hE⟩ | ⟨h1, h2, h3, h5, hE⟩ | ⟨h1, h2, h3, h5, hE⟩
 case' inl => rw [hyes] at hE; cases hE
 case' inr.inl => rw [hyes] at hE; cases hE
 case' inr.inr.inl => rw [hyes] at hE; cases hE
 case' inr.inr.inr.inl => rw [hyes] at hE; cases hE
 case' inr.inr.inr.inr.inl => have H1 := Lib.hid h1; have b2 := beq_yes h2; have H4 := Lib.hid h4; have HU := Lib.hid (show used24 s.mode = 1 from if_neg h5); have HN := Lib.hid (show lvN n q s = { s with mode := 0, O := wipeN s.cols q s.O } from if_pos h2); have HL := Lib.hid (show lvS n s = none from if_neg (by omega)); clear h1 h2 h4 h5
 case' inr.inr.inr.inr.inr.inl =>
  have H1 := Lib.hid h1; have b2 := beq_no h2; have b3 := beq_yes h3; have HU := Lib.hid (show used24 s.mode = 1 from if_neg h5); have HN := Lib.hid (show lvN n q s = { s with mode := 0, kept := none } by unfold lvN; rw [if_neg h2, if_pos h3]); have HL := Lib.hid (show lvS n s = s.kept from if_pos h3); clear h1 h2 h3 h5
  rcases hk : s.kept with _ | x
 case' inr.inr.inr.inr.inr.inr => have H1 := Lib.hid h1; have b2 := beq_no h2; have b3 := beq_no h3; have HU := Lib.hid (show used24 s.mode = 1 from if_neg h5); have HN := Lib.hid (show lvN n q s = { s with mode := 0 } by unfold lvN; rw [if_neg h2, if_neg h3]); have HL := Lib.hid (show lvS n s = none from if_neg h3); clear h1 h2 h3 h5
 case' inr.inr.inr.inr.inr.inl.none =>
  have h := HK.out
  rw [hk] at h
  obtain rfl : kv = .pointer none := h
 case' inr.inr.inr.inr.inr.inl.some =>
  have h := HK.out
  rw [hk] at h
  obtain ⟨kp, rfl, rfl⟩ := h
 all_goals
  clear hE hyes
  go_enter Tryd.func23, Tryd.ntmps23
  go_upto_region 1 with (fail)
  refine at_objsC (S.out.alloc2 (c1 := pv q) (t1 := 29) (c2 := sv saved0) (t2 := 35)) (fun W hW => ?_)
  generalize w.heap.size + 1 = b6 at hW ⊢
  generalize w.heap.size = b5 at hW ⊢
  have S1 := Lib.hid hW
  clear hW S
  go_wp2_with fail
  refine (pnone_no S1.out (k := 2) rfl).mono ?_
  rintro e w1 ⟨rfl, hS⟩
  have S2 := Lib.hid hS
  clear hS S1
  obtain ⟨hx6, hf6, hz6, hr6, hp6⟩ := (S2.out.box (k := 0) rfl).saved
  have hst6 := fun c => store_sv_row w1 b6 _ c (S2.out.box (k := 0) rfl) rfl
  obtain ⟨hx5, hf5, hz5⟩ := (S2.out.box (k := 1) rfl).facts
  have hp5 := (S2.out.box (k := 1) rfl).penAt
  obtain ⟨hx, hf, hz⟩ := (S2.out.box (k := 2) rfl).facts
  try rw [HU.out] at hx
  go_wp2_with fail
  refine (altKnown_is H1.out _).mono ?_
  rintro e w2 ⟨rfl, rfl⟩
 ·go_upto_region 8 with (fail)
  refine at_objsC ((S2.out.setBox 2 (i := 2) (u := .int .i64 0) rfl).setBox 2 (i := 3) (u := .int .i64 0) rfl) (fun W5 hW => ?_)
  clear hx6 hf6 hz6 hr6 hp6 hst6 hx5 hf5 hz5 hp5 hx hf hz
  have S5 := Lib.hid hW
  clear hW S2
  obtain ⟨hx6, hf6, hz6, hr6, hp6⟩ := (S5.out.box (k := 0) rfl).saved
  have hst6 := fun c => store_sv_row W5 b6 _ c (S5.out.box (k := 0) rfl) rfl
  obtain ⟨hx, hf, hz⟩ := (S5.out.box (k := 2) rfl).facts
  obtain ⟨hxk, hfk, hzk, hrk, hpk⟩ := (S5.out.box (k := 5) rfl).saved
  obtain ⟨hxr, hfr, hzr⟩ := ((S5.out.rowBox 0 (ds := sv x) rfl).box (k := 2) rfl).facts
  go_upto_region 12 with (fail)
  refine at_objsC ((S5.out.rowBox 0 (ds := sv x) rfl).setBox 2 (i := 4) (u := .pointer none) rfl) (fun W6 hW => ?_)
  clear hx6 hf6 hz6 hr6 hp6 hst6 hx hf hz hxr hfr hzr hxk hfk hzk hrk hpk
  have S6 := Lib.hid hW
  clear hW S5
  obtain ⟨hx6, hf6, hz6, hr6, hp6⟩ := (S6.out.box (k := 0) rfl).saved
  have hst6 := fun c => store_sv_row W6 b6 _ c (S6.out.box (k := 0) rfl) rfl
  obtain ⟨hx, hf, hz⟩ := (S6.out.box (k := 2) rfl).facts
  go_wp2_with fail
  refine at_objsP (S6.out.rowBox 0 (ds := sv x) rfl) (fun W7 hW => ?_)
  have S7 := Lib.hid hW
  clear hW
  refine bodyPost_ret (results_cell3 Tryd.results23 _ _ b6 35 _ _ rfl (S7.out.box (k := 0) rfl) Tryd.underlying35 rfl (by rw [sv_size]; exact saved_size)) rfl ?_
  rw [HL.out]
  refine ⟨by rw [hk]; rfl, ?_⟩
  rw [HN.out]
  refine Objs.closePair (g := g) (m := m) (kv := .pointer none) (ko := .box kp 35 (sv x)) ?_ rfl
  exact S7.out.tail.tail
 ·go_upto_region 8 with (fail)
  refine at_objsC ((S2.out.setBox 2 (i := 2) (u := .int .i64 0) rfl).setBox 2 (i := 3) (u := .int .i64 0) rfl) (fun W5 hW => ?_)
  clear hx6 hf6 hz6 hr6 hp6 hst6 hx5 hf5 hz5 hp5 hx hf hz
  have S5 := Lib.hid hW
  clear hW S2
  obtain ⟨hx6, hf6, hz6, hr6, hp6⟩ := (S5.out.box (k := 0) rfl).saved
  have hst6 := fun c => store_sv_row W5 b6 _ c (S5.out.box (k := 0) rfl) rfl
  obtain ⟨hx, hf, hz⟩ := (S5.out.box (k := 2) rfl).facts
  go_wp2_with fail
  refine at_objsP (S5.out.rowBox 0 (ds := sv saved0) rfl) (fun W6 hW => ?_)
  have S6 := Lib.hid hW
  clear hW
  refine bodyPost_ret (results_cell3 Tryd.results23 _ _ b6 35 _ _ rfl (S6.out.box (k := 0) rfl) Tryd.underlying35 rfl (by rw [sv_size]; exact saved_size)) rfl ?_
  rw [HL.out]
  refine ⟨by rw [hk]; rfl, ?_⟩
  rw [HN.out]
  refine Objs.closePair (g := g) (m := m) (kv := .pointer none) (ko := ko) ?_ rfl
  exact S6.out.tail.tail
 ·go_upto_region 8 with (fail)
  refine at_objsC ((S2.out.setBox 2 (i := 2) (u := .int .i64 0) rfl).setBox 2 (i := 3) (u := .int .i64 0) rfl) (fun W5 hW => ?_)
  clear hx6 hf6 hz6 hr6 hp6 hst6 hx5 hf5 hz5 hp5 hx hf hz
  have S5 := Lib.hid hW
  clear hW S2
  obtain ⟨hx6, hf6, hz6, hr6, hp6⟩ := (S5.out.box (k := 0) rfl).saved
  have hst6 := fun c => store_sv_row W5 b6 _ c (S5.out.box (k := 0) rfl) rfl
  obtain ⟨hx, hf, hz⟩ := (S5.out.box (k := 2) rfl).facts
  go_wp2_with fail
  refine at_objsP (S5.out.rowBox 0 (ds := sv saved0) rfl) (fun W6 hW => ?_)
  have S6 := Lib.hid hW
  clear hW
  refine bodyPost_ret (results_cell3 Tryd.results23 _ _ b6 35 _ _ rfl (S6.out.box (k := 0) rfl) Tryd.underlying35 rfl (by rw [sv_size]; exact saved_size)) rfl ?_
  rw [HL.out]
  refine ⟨rfl, ?_⟩
  rw [HN.out]
  refine Objs.closePair (g := g) (m := m) (kv := kv) (ko := ko) ?_ HK.out
  exact S6.out.tail.tail
 ·go_wp2_with fail
  refine (altInked_is H4.out HT.out S2.out).mono ?_
  rintro e w2 ⟨rfl, hS⟩
  clear hx6 hf6 hz6 hr6 hp6 hst6 hx5 hf5 hz5 hp5 hx hf hz
  have S3 := Lib.hid hS
  clear hS S2
  obtain ⟨hx6, hf6, hz6, hr6, hp6⟩ := (S3.out.box (k := 0) rfl).saved
  have hst6 := fun c => store_sv_row w2 b6 _ c (S3.out.box (k := 0) rfl) rfl
  obtain ⟨hx5, hf5, hz5⟩ := (S3.out.box (k := 1) rfl).facts
  have hp5 := (S3.out.box (k := 1) rfl).penAt
  obtain ⟨hx, hf, hz⟩ := (S3.out.box (k := 2) rfl).facts
  try rw [HU.out] at hx
  go_upto_region 8 with (fail)
  refine at_objsC ((S3.out.setBox 2 (i := 2) (u := .int .i64 0) rfl).setBox 2 (i := 3) (u := .int .i64 0) rfl) (fun W5 hW => ?_)
  clear hx6 hf6 hz6 hr6 hp6 hst6 hx5 hf5 hz5 hp5 hx hf hz
  have S5 := Lib.hid hW
  clear hW S3
  obtain ⟨hx6, hf6, hz6, hr6, hp6⟩ := (S5.out.box (k := 0) rfl).saved
  have hst6 := fun c => store_sv_row W5 b6 _ c (S5.out.box (k := 0) rfl) rfl
  obtain ⟨hx, hf, hz⟩ := (S5.out.box (k := 2) rfl).facts
  go_upto_region 9 with (fail)
  clear hx6 hf6 hz6 hr6 hp6 hst6 hx hf hz
  refine wp_region_stage (w0 := w0) (os := ko :: os) (by kernel_rfl) (by kernel_rfl) (by kernel_rfl) [(4, 3, [], fun vs => .grid m 83 ↑s.cols (wipeN s.cols q s.O)), (0, 4, [], fun vs => .box b6 35 (sv saved0))] [[0], [], [1], [2, 4], [0], [], []] [.box b6 35 (sv saved0), .box b5 29 (pv q), .box p 44 #[.pointer (some ⟨g, 0, none⟩), .pointer (some ⟨m, 0, none⟩), .int .i64 0, .int .i64 0, kv], .grid g 83 ↑s.cols s.M, .grid m 83 ↑s.cols s.O] (fun opn u => match opn with | 0 => u = .agg (sv saved0) | 1 => u = .pointer (some ⟨p, 0, none⟩) | 2 => u = .agg (pv q) | 3 => u = .int .i64 0 | 4 => True | 5 => u = .bool false | 6 => u = .int .i64 0 | _ => True) (fun vs => [.box b6 35 (sv saved0), .box b5 29 (pv q), .box p 44 #[.pointer (some ⟨g, 0, none⟩), .pointer (some ⟨m, 0, none⟩), .int .i64 0, .int .i64 0, kv], .grid g 83 ↑s.cols s.M, .grid m 83 ↑s.cols (wipeN s.cols q s.O)]) (by kernel_rfl) (fun vs => by rfl) S5.out ?_ ?_
  ·apply sc
   ·intro a w' vs σ hS hl hs hk
    have f6 : a.tmps[6]?.getD undef = .pointer (some ⟨b6, 0, none⟩) := sof hk
    have hx := (hS.box (sg (hs 0 (by decide)))).saved.2.2.2.1
    exact rp (.agg (sv saved0)) (by simp [execOp, Act.eval, f6, go_sem, hx]) hl hs hS
   apply sc
   ·intro a w' vs σ hS hl hs hk
    have f0 : a.tmps[0]?.getD undef = .pointer (some ⟨p, 0, none⟩) := sof hk
    exact rp (pt p 0) (by simp [execOp, Act.eval, f0, go_sem]) hl hs hS
   apply sc
   ·intro a w' vs σ hS hl hs hk
    have f5 : a.tmps[5]?.getD undef = .pointer (some ⟨b5, 0, none⟩) := sof hk
    have hx := (hS.box (sg (hs 1 (by decide)))).penAt
    exact rp (.agg (pv q)) (by simp [execOp, Act.eval, f5, go_sem, hx]) hl hs hS
   apply sc
   ·intro a w' vs σ hS hl hs hk
    have e44 : a.tmps.getD 44 undef = .pointer (some ⟨p, 0, none⟩) := svv hk 1
    have e45 : a.tmps.getD 45 undef = .agg (pv q) := svv hk 2
    exact ro_call (f := 38) (wanted_none rfl) rfl (by simp only [List.map_toArray, List.map_cons, List.map_nil, Act.eval, e44, e45] <;> rfl) (fun _ _ => by kernel_rfl) ((pwipe_at q HT.out hS (k := 2) (j := 4) (sg (hs 2 (by decide))) (sg (hs 4 (by decide))) (by decide) HG.out.c0 HG.out.cm HG.out.O.1 (by rw [HG.out.O.2.1]; exact HG.out.rm) H4.out).mono fun e w2 ⟨h1, h2⟩ => ⟨_, h1, sp_set 4 (.grid m 83 ↑s.cols (wipeN s.cols q s.O)) (by kernel_rfl) (by simp) (by decide) hl hs (by rfl) h2 rfl, trivial⟩)
   apply sc
   ·intro a w' vs σ hS hl hs hk
    have f6 : a.tmps[6]?.getD undef = .pointer (some ⟨b6, 0, none⟩) := sof hk
    have f43 : a.tmps[43]?.getD undef = .agg (sv saved0) := sf hk 0
    have h1 : σ[0]? = some (.box b6 35 (sv saved0)) := hs 0 (by decide)
    have hst := store_sv_row w' b6 (sv saved0) saved0 (hS.box (sg h1)) rfl
    exact rstep_store (w2 := w'.setRow b6 (sv saved0)) (wanted_none rfl) rfl (by simp [execOp, Act.eval, f6, f43, hst, go_sem]) (sp_set 0 (.box b6 35 (sv saved0)) (by kernel_rfl) (by simp) (by decide) hl hs (by rfl) (hS.rowBox 0 (ds := sv saved0) (sg h1)) trivial) trivial
   apply sc
   ·intro a w' vs σ hS hl hs hk
    exact rp (.bool false) (by simp [execOp, Act.eval, go_sem]) hl hs hS
   apply sc
   ·intro a w' vs σ hS hl hs hk
    have f46 : a.tmps[46]?.getD undef = .int .i64 0 := sf hk 3
    exact rp (.int .i64 0) (by simp [execOp, Act.eval, f46, go_sem]) hl hs hS
   exact SSteps.nil
  ·intro vs w' hS hv
   have q0 : vs 0 = _ := hv 0 (by decide)
   have q1 : vs 1 = _ := hv 1 (by decide)
   have q2 : vs 2 = _ := hv 2 (by decide)
   have q3 : vs 3 = _ := hv 3 (by decide)
   have q5 : vs 5 = _ := hv 5 (by decide)
   have q6 : vs 6 = _ := hv 6 (by decide)
   have S2 := Lib.hid hS
   simp only [putL, Act.put, Nat.zero_add, Nat.reduceAdd, List.setIfInBounds_toArray, List.set_cons_succ, List.set_cons_zero, q0, q1, q2, q3, q5, q6]
   clear hS hv q0 q1 q2 q3 q5 q6
   have S6 := S2
   clear S2
   go_wp2_with fail
   refine bodyPost_ret (results_cell3 Tryd.results23 _ _ b6 35 _ _ rfl (S6.out.box (k := 0) rfl) Tryd.underlying35 rfl (by rw [sv_size]; exact saved_size)) rfl ?_
   rw [HL.out]
   refine ⟨rfl, ?_⟩
   rw [HN.out]
   refine Objs.closePair (g := g) (m := m) (kv := kv) (ko := ko) ?_ HK.out
   exact S6.out.tail.tail
end
end Go.Proofs.YtdndoikgnohkkaaDoor

namespace Go.Proofs.YtdndoikgnohkkaaDoor
open Go.RowKit

section
variable {w0 w : World} {os : List Ob} {L : List Ln} {v b : Value}
theorem Objs.storeLine {k j i gr n c : Nat} {l : Ln} {v2 : Value} {cs : List Cell} {s : Bool} (hS : Objs w0 w os) (hk : os[k]? = some (.linesx (.slice (some ⟨gr, 0, none⟩) n c) L i b)) (hj : os[j]? = some (.cells v2 cs)) (hkj : k ≠ j) (hl : L[i]? = some l) :
  Objs w0 ((w.setCell ⟨gr, i * 2, none⟩ v2).setCell ⟨gr, i * 2 + 1, none⟩ (.bool s)) ((os.set k (.lines (.slice (some ⟨gr, 0, none⟩) n c) (L.set i (cs, s)))).set j .none) := by
 have h1 := hS.storeRow hk hj hkj (s := l.2) (by rw [hl]; rfl)
 have hi : i < L.length := (List.getElem?_eq_some_iff.1 hl).1
 have hkl : k < os.length := (List.getElem?_eq_some_iff.1 hk).1
 have h2 := h1.storeSoft (k := k) (i := i) (l := (cs, l.2)) (s := s) (gr := gr) (n := n) (c := c) (L := L.set i (cs, l.2)) (by rw [List.getElem?_set_ne (Ne.symm hkj), List.getElem?_set_self hkl]) (by rw [List.getElem?_set_self hi])
 rw [List.set_comm _ _ (Ne.symm hkj), List.set_set, List.set_set] at h2
 exact h2
end
end Go.Proofs.YtdndoikgnohkkaaDoor

namespace Go.Proofs.YtdndoikgnohkkaaDoor
open Go.RowKit

section
variable {w0 w : World} {os : List Ob} {p cols : Nat} {L : List Ln}
end
end Go.Proofs.YtdndoikgnohkkaaDoor

namespace Go.Proofs.YtdndoikgnohkkaaDoor
open Go.RowKit

theorem wipeK_set {cols k : Nat} {q : Pen} {O : List Ln} (hk : k < O.length) : (wipeK cols q k O).set k (List.replicate cols (blank q), false) = wipeK cols q (k + 1) O := by
 show (wipeK cols q k O).set k (blankL cols q) = _
 unfold wipeK
 rw [List.set_append_right _ _ (by simp)]
 simp [List.replicate_succ']
 rw [List.drop_eq_getElem_cons hk]
 rfl
section
variable {w0 w : World} {os : List Ob} {p m o : Nat} {md : Int} {sx : Saved} {kx : Bool}
theorem used_any {k : Nat} (hS : Objs w0 w os) (hk : os[k]? = some (.box p 103 (rpv m o md sx kx))) : Calls Tryd.prog 51 #[.pointer (some ⟨p, 0, none⟩)] w fun e w' => e = .returned (.pointer (some ⟨if md = 0 then m else o, 0, none⟩)) ∧ Objs w0 w' os := by
 obtain ⟨hx, hf, hz, hr⟩ := (hS.box hk).rpair
 have S := Lib.hid hS
 clear hS
 by_cases h : md = 0
 case' pos => rw [if_pos h]; have hb := bne_no h
 case' neg => rw [if_neg h]; have hb := bne_yes h
 all_goals
  clear h
  go_enter Tryd.func51, Tryd.ntmps51
  go_wp2_with fail
  go_ret
  exact ⟨rfl, S.out⟩
set_option maxRecDepth 100000 in
set_option maxHeartbeats 4000000 in
theorem rwipe_front {cols : Nat} {O : List Ln} (q : Pen) (hS : Objs w0 w (.box p 103 (rpv m o md sx kx) :: .grid o 106 cols O :: os)) (hc : 0 < cols) (hcm : cols ≤ 1000) (hR : Rect cols O) (hO : O.length ≤ 1000) :
  Calls Tryd.prog 79 #[.pointer (some ⟨p, 0, none⟩), .agg (pv q)] w fun e w' => e = .returned (.tuple #[]) ∧ Objs w0 w' (.box p 103 (rpv m o md sx kx) :: .grid o 106 cols (wipeN cols q O) :: os) := by
 have S := Lib.hid hS
 have HRO := Lib.hid hR
 clear hS hR
 go_enter Tryd.func79, Tryd.ntmps79
 go_upto_region 1 with (fail)
 refine at_objsC (S.out.alloc1 (c1 := pv q) (t1 := 29)) (fun W hW => ?_)
 generalize w.heap.size = b3 at hW ⊢
 have S1 := Lib.hid hW
 clear hW S
 go_wp2_with fail
 go_loopw [4] (fun x wr => ∃ n : Nat, n ≤ O.length ∧ x = .int .i64 n ∧ Objs w0 wr (.box b3 29 (pv q) :: .box p 103 (rpv m o md sx kx) :: .grid o 106 ↑cols (wipeK cols q n O) :: os)) (fun x _ => O.length - (intOf x).toNat)
 case atStart => exact ⟨0, Nat.zero_le _, rfl, by rw [wipeK_zero]; exact S1.out⟩
 case round =>
  clear S1
  obtain ⟨n, hn, rfl, hS⟩ := hrel
  have S2 := Lib.hid hS
  clear hS
  have HLEN := Lib.hid (wipeK_length (cols := cols) (q := q) hn)
  obtain ⟨hxp, hfp, hzp, hrp⟩ := (S2.out.box (k := 1) rfl).rpair
  obtain ⟨A, c, hB, -, -⟩ := S2.out.gridRd (k := 2) rfl
  obtain ⟨hxo, hfo, hzo⟩ := hB.facts
  clear hB
  by_cases hlt : n < O.length
  ·have hlt1 : (n : Int) < ((wipeK cols q n O).length : Int) := by rw [HLEN.out]; omega
   go_upto_region 4 with (fail)
   clear hxp hfp hzp hrp hxo hfo hzo
   obtain ⟨l, hl⟩ := get_of (show n < (wipeK cols q n O).length by rw [HLEN.out]; exact hlt)
   have HL := Lib.hid hl
   obtain ⟨v, hS1⟩ := S2.out.openGrid (k := 2) rfl
   obtain ⟨b, hS2⟩ := hS1.openRow (k := 0) rfl HL.out
   obtain ⟨gr, cg, rfl, hgc, hgm, -, hzg, -, -, hfg⟩ := hS2.linesxRd (k := 1) rfl
   have SX := Lib.hid hS2
   have hb0 : (0 : Int) ≤ (n : Int) := by omega
   have hb1 := hlt1
   clear hl hS1 hS2 S2 hgc hgm hzg hfg hlt1
   refine wp_region_stage (w0 := w0) (os := os) (by kernel_rfl) (by kernel_rfl) (by kernel_rfl) [(0, 16, [16], fun vs => .cells (lineV (vs 16)) (List.replicate cols (blank q))), (2, 18, [], fun vs => .lines (.slice (some ⟨gr, 0, none⟩) (wipeK cols q n O).length cg) ((wipeK cols q n O).set n ((List.replicate cols (blank q)), false))), (0, 18, [], fun vs => .none)] [[], [], [], [4], [], [], [5], [], [], [], [], [4], [], [], [5], [3], [0], [], [0, 2]] [.none, .cells b l.1, .linesx (.slice (some ⟨gr, 0, none⟩) (wipeK cols q n O).length cg) (wipeK cols q n O) n b, .box b3 29 (pv q), .box p 103 (rpv m o md sx kx), .box o 106 #[.int .i64 ↑cols, .slice (some ⟨gr, 0, none⟩) (wipeK cols q n O).length cg]] (fun opn u => match opn with | 0 => u = .pointer (some ⟨p, 0, none⟩) | 1 => u = .pointer (some ⟨p, 0, none⟩) | 2 => u = .pointer (some ⟨p, 1, none⟩) | 3 => u = .pointer (some ⟨o, 0, none⟩) | 4 => u = .pointer (some ⟨o, 0, none⟩) | 5 => u = .pointer (some ⟨o, 1, none⟩) | 6 => u = .slice (some ⟨gr, 0, none⟩) (wipeK cols q n O).length cg | 7 => u = .int .i64 ↑n | 8 => u = .pointer (some ⟨p, 0, none⟩) | 9 => u = .pointer (some ⟨p, 0, none⟩) | 10 => u = .pointer (some ⟨p, 1, none⟩) | 11 => u = .pointer (some ⟨o, 0, none⟩) | 12 => u = .pointer (some ⟨o, 0, none⟩) | 13 => u = .pointer (some ⟨o, 0, none⟩) | 14 => u = .int .i64 ↑cols | 15 => u = .agg (pv q) | 16 => ∃ A m c, u = .agg #[.slice A m c, .bool false] | 17 => u = .pointer (some ⟨gr, n * 2, none⟩) | 18 => True | _ => True) (fun vs => [.none, .cells b l.1, .lines (.slice (some ⟨gr, 0, none⟩) (wipeK cols q n O).length cg) ((wipeK cols q n O).set n ((List.replicate cols (blank q)), false)), .box b3 29 (pv q), .box p 103 (rpv m o md sx kx), .box o 106 #[.int .i64 ↑cols, .slice (some ⟨gr, 0, none⟩) (wipeK cols q n O).length cg]]) (by kernel_rfl) (fun vs => by rfl) SX.out.pad ?_ ?_
   ·apply sc
    ·intro a w' vs σ hS hl hs hk
     have f0 : a.tmps[0]?.getD undef = .pointer (some ⟨p, 0, none⟩) := sof hk
     exact rp (pt p 0) (by simp [execOp, Act.eval, f0, go_sem]) hl hs hS
    apply sc
    ·intro a w' vs σ hS hl hs hk
     have f17 : a.tmps[17]?.getD undef = .pointer (some ⟨p, 0, none⟩) := sf hk 0
     exact rp (pt p 0) (by simp [execOp, Act.eval, f17, go_sem]) hl hs hS
    apply sc
    ·intro a w' vs σ hS hl hs hk
     have f18 : a.tmps[18]?.getD undef = .pointer (some ⟨p, 0, none⟩) := sf hk 1
     exact rp (pt p 1) (by simp [execOp, Act.eval, f18, go_sem]) hl hs hS
    apply sc
    ·intro a w' vs σ hS hl hs hk
     have f19 : a.tmps[19]?.getD undef = .pointer (some ⟨p, 1, none⟩) := sf hk 2
     have hx := (hS.box (sg (hs 4 (by decide)))).cell
     exact rp (pt o 0) (by simp [execOp, Act.eval, f19, go_sem, hx]) hl hs hS
    apply sc
    ·intro a w' vs σ hS hl hs hk
     have f20 : a.tmps[20]?.getD undef = .pointer (some ⟨o, 0, none⟩) := sf hk 3
     exact rp (pt o 0) (by simp [execOp, Act.eval, f20, go_sem]) hl hs hS
    apply sc
    ·intro a w' vs σ hS hl hs hk
     have f21 : a.tmps[21]?.getD undef = .pointer (some ⟨o, 0, none⟩) := sf hk 4
     exact rp (pt o 1) (by simp [execOp, Act.eval, f21, go_sem]) hl hs hS
    apply sc
    ·intro a w' vs σ hS hl hs hk
     have f22 : a.tmps[22]?.getD undef = .pointer (some ⟨o, 1, none⟩) := sf hk 5
     have hx := (hS.box (sg (hs 5 (by decide)))).cell
     exact rp (.slice (some ⟨gr, 0, none⟩) (wipeK cols q n O).length cg) (by simp [execOp, Act.eval, f22, go_sem, hx]) hl hs hS
    apply sc
    ·intro a w' vs σ hS hl hs hk
     have f4 : a.tmps[4]?.getD undef = .int .i64 ↑n := sof hk
     exact rp (.int .i64 ↑n) (by simp [execOp, Act.eval, f4, go_sem]) hl hs hS
    apply sc
    ·intro a w' vs σ hS hl hs hk
     have f0 : a.tmps[0]?.getD undef = .pointer (some ⟨p, 0, none⟩) := sof hk
     exact rp (pt p 0) (by simp [execOp, Act.eval, f0, go_sem]) hl hs hS
    apply sc
    ·intro a w' vs σ hS hl hs hk
     have f25 : a.tmps[25]?.getD undef = .pointer (some ⟨p, 0, none⟩) := sf hk 8
     exact rp (pt p 0) (by simp [execOp, Act.eval, f25, go_sem]) hl hs hS
    apply sc
    ·intro a w' vs σ hS hl hs hk
     have f26 : a.tmps[26]?.getD undef = .pointer (some ⟨p, 0, none⟩) := sf hk 9
     exact rp (pt p 1) (by simp [execOp, Act.eval, f26, go_sem]) hl hs hS
    apply sc
    ·intro a w' vs σ hS hl hs hk
     have f27 : a.tmps[27]?.getD undef = .pointer (some ⟨p, 1, none⟩) := sf hk 10
     have hx := (hS.box (sg (hs 4 (by decide)))).cell
     exact rp (pt o 0) (by simp [execOp, Act.eval, f27, go_sem, hx]) hl hs hS
    apply sc
    ·intro a w' vs σ hS hl hs hk
     have f28 : a.tmps[28]?.getD undef = .pointer (some ⟨o, 0, none⟩) := sf hk 11
     exact rp (pt o 0) (by simp [execOp, Act.eval, f28, go_sem]) hl hs hS
    apply sc
    ·intro a w' vs σ hS hl hs hk
     have f29 : a.tmps[29]?.getD undef = .pointer (some ⟨o, 0, none⟩) := sf hk 12
     exact rp (pt o 0) (by simp [execOp, Act.eval, f29, go_sem]) hl hs hS
    apply sc
    ·intro a w' vs σ hS hl hs hk
     have f30 : a.tmps[30]?.getD undef = .pointer (some ⟨o, 0, none⟩) := sf hk 13
     have hx := (hS.box (sg (hs 5 (by decide)))).cell
     exact rp (.int .i64 ↑cols) (by simp [execOp, Act.eval, f30, go_sem, hx]) hl hs hS
    apply sc
    ·intro a w' vs σ hS hl hs hk
     have f3 : a.tmps[3]?.getD undef = .pointer (some ⟨b3, 0, none⟩) := sof hk
     have hx := (hS.box (sg (hs 3 (by decide)))).penAt
     exact rp (.agg (pv q)) (by simp [execOp, Act.eval, f3, go_sem, hx]) hl hs hS
    apply sc
    ·intro a w' vs σ hS hl hs hk
     have e31 : a.tmps.getD 31 undef = .int .i64 ↑cols := svv hk 14
     have e32 : a.tmps.getD 32 undef = .agg (pv q) := svv hk 15
     have h0 : σ[0]? = some .none := hs 0 (by decide)
     exact ro_call (f := 59) (wanted_none rfl) rfl (by simp only [List.map_toArray, List.map_cons, List.map_nil, Act.eval, e31, e32] <;> rfl) (fun _ _ => by kernel_rfl) ((r14Blanks_any cols (by omega) q w0 _ _ hS).mono fun e w2 ⟨x, h1, h2⟩ => ⟨_, h1, sp_set 0 (.cells x (List.replicate cols (blank q))) (by kernel_rfl) (by simp) (by decide) hl hs (by rfl) (h2.place (sg h0)) (by obtain ⟨A', c', e, -⟩ := h2.cellsRd (k := 0) rfl; exact ⟨A', _, c', by rw [e]⟩), trivial⟩)
    apply sc
    ·intro a w' vs σ hS hl hs hk
     have f23 : a.tmps[23]?.getD undef = .slice (some ⟨gr, 0, none⟩) (wipeK cols q n O).length cg := sf hk 6
     have f24 : a.tmps[24]?.getD undef = .int .i64 ↑n := sf hk 7
     exact rp (pt gr (n * 2)) (by simp [execOp, Act.eval, f23, f24, go_sem, hb0, hb1]) hl hs hS
    apply sc
    ·intro a w' vs σ hS hl hs hk
     have f34 : a.tmps[34]?.getD undef = .pointer (some ⟨gr, n * 2, none⟩) := sf hk 17
     have e33 : a.tmps.getD 33 undef = vs 16 := sk_val hk 16 (by kernel_rfl) rfl rfl
     have p33 : (fun u : Value => ∃ A m c, u = .agg #[.slice A m c, .bool false]) (vs 16) := (hk.1 16 (by kernel_rfl)).1
     have f33 := gd e33
     obtain ⟨A7, n7, c7, q7⟩ := p33
     have h1 : σ[2]? = some (.linesx (.slice (some ⟨gr, 0, none⟩) (wipeK cols q n O).length cg) (wipeK cols q n O) n b) := hs 2 (by decide)
     have h2 : σ[0]? = some (.cells (lineV (vs 16)) (List.replicate cols (blank q))) := hs 0 (by decide)
     rw [q7, show lineV (.agg #[.slice A7 n7 c7, .bool false]) = .slice A7 n7 c7 from rfl] at h2
     obtain ⟨g', c', e', -, -, -, hz, hc1, hc2, hf⟩ := hS.linesxRd (sg h1)
     simp only [Value.slice.injEq, Option.some.injEq, Addr.mk.injEq, and_true, true_and] at e'
     obtain ⟨rfl, -⟩ := e'
     have hc2 := hc2 l HL.out
     exact rstep_store (w2 := (w'.setCell ⟨gr, n * 2, none⟩ (.slice A7 n7 c7)).setCell ⟨gr, n * 2 + 1, none⟩ (.bool false)) (wanted_none rfl) rfl (by simp [execOp, Act.eval, f34, e33, f33, q7, hf, hz, hc1, hc2, go_sem]) (sp_set2 2 0 (.lines (.slice (some ⟨gr, 0, none⟩) (wipeK cols q n O).length cg) ((wipeK cols q n O).set n ((List.replicate cols (blank q)), false))) .none (by decide) (by kernel_rfl) (by simp) (by simp) (by decide) (by decide) hl hs (by rfl) (by rfl) (hS.storeLine (k := 2) (j := 0) (s := false) (sg h1) (sg h2) (by decide) HL.out) trivial) trivial
    exact SSteps.nil
   ·intro vs w' hS hv
    have q0 : vs 0 = _ := hv 0 (by decide)
    have q1 : vs 1 = _ := hv 1 (by decide)
    have q2 : vs 2 = _ := hv 2 (by decide)
    have q3 : vs 3 = _ := hv 3 (by decide)
    have q4 : vs 4 = _ := hv 4 (by decide)
    have q5 : vs 5 = _ := hv 5 (by decide)
    have q6 : vs 6 = _ := hv 6 (by decide)
    have q7 : vs 7 = _ := hv 7 (by decide)
    have q8 : vs 8 = _ := hv 8 (by decide)
    have q9 : vs 9 = _ := hv 9 (by decide)
    have q10 : vs 10 = _ := hv 10 (by decide)
    have q11 : vs 11 = _ := hv 11 (by decide)
    have q12 : vs 12 = _ := hv 12 (by decide)
    have q13 : vs 13 = _ := hv 13 (by decide)
    have q14 : vs 14 = _ := hv 14 (by decide)
    have q15 : vs 15 = _ := hv 15 (by decide)
    have q17 : vs 17 = _ := hv 17 (by decide)
    have S2 := Lib.hid hS
    simp only [putL, Act.put, Nat.zero_add, Nat.reduceAdd, List.setIfInBounds_toArray, List.set_cons_succ, List.set_cons_zero, q0, q1, q2, q3, q4, q5, q6, q7, q8, q9, q10, q11, q12, q13, q14, q15, q17]
    clear hS hv q0 q1 q2 q3 q4 q5 q6 q7 q8 q9 q10 q11 q12 q13 q14 q15 q17
    have S3 := Lib.hid (show Objs w0 _ (.lines _ _ :: .box b3 29 (pv q) :: .box p 103 (rpv m o md sx kx) :: .box o 106 _ :: os) from (S2.out.del 0).del 0)
    clear SX S2
    rw [wipeK_set hlt] at S3
    have S4 := Lib.hid (S3.out.closeGrid (k := 2) rfl)
    clear S3
    go_wp2_with fail
    go_roundw
    case rel => exact ⟨n + 1, by omega, by go_num, S4.out⟩
    case measure => simp [intOf]; omega
  ·have HE := Lib.hid (show n = O.length by omega)
   have hlt1 : ¬ (n : Int) < ((wipeK cols q n O).length : Int) := by rw [HLEN.out]; omega
   go_wp2_with fail
   go_end0
   exact ⟨rfl, by have h := S2.out.tail; rw [HE.out, wipeK_all] at h; exact h⟩
theorem rwipe_at {cols k j : Nat} {O : List Ln} (q : Pen) (hS : Objs w0 w os) (hk : os[k]? = some (.box p 103 (rpv m o md sx kx))) (hj : os[j]? = some (.grid o 106 cols O)) (hkj : k ≠ j) (hc : 0 < cols) (hcm : cols ≤ 1000) (hR : Rect cols O) (hO : O.length ≤ 1000) :
  Calls Tryd.prog 79 #[.pointer (some ⟨p, 0, none⟩), .agg (pv q)] w fun e w' => e = .returned (.tuple #[]) ∧ Objs w0 w' (os.set j (.grid o 106 cols (wipeN cols q O))) := by
 have h := pair_call hS hk hj hkj (fun rest h => rwipe_front q h hc hcm hR hO)
 rw [set_self hk] at h
 exact h
end
end Go.Proofs.YtdndoikgnohkkaaDoor

namespace Go.Proofs.YtdndoikgnohkkaaDoor
open Go.RowKit

section
variable {w0 w : World} {os : List Ob} {p : Nat} {s : Pr}
set_option maxRecDepth 100000 in
set_option maxHeartbeats 4000000 in
theorem rEnter_front {rr : Nat} (n : Int) (x : Saved) (q : Pen) (hS : Objs w0 w (refO p s :: os)) (hg : s.good rr) :
  Calls Tryd.prog 57 #[.pointer (some ⟨p, 0, none⟩), .int .i64 n, .agg (sv x), .agg (pv q)] w fun e w' => e = .returned (.tuple #[]) ∧ Objs w0 w' (refO p (entN n x q s) :: os) := by
 obtain ⟨m, o, hO⟩ := hS.openRef
 have S := Lib.hid hO
 have HG := Lib.hid hg
 clear hS hO hg
 by_cases h : n = 1049
 case' pos => have b2 := beq_yes h; have HN := Lib.hid (show entN n x q s = { s with mode := n, kept := some x, O := wipeN s.cols q s.O } from if_pos h); clear h
 case' neg => have b2 := beq_no h; have HN := Lib.hid (show entN n x q s = { s with mode := n } from if_neg h); clear h
 all_goals
  go_enter Tryd.func57, Tryd.ntmps57
  go_upto_region 1 with (fail)
  refine at_objsC (S.out.alloc2 (c1 := sv x) (t1 := 35) (c2 := pv q) (t2 := 29)) (fun W hW => ?_)
  generalize w.heap.size + 1 = b7 at hW ⊢
  generalize w.heap.size = b6 at hW ⊢
  have S1 := Lib.hid hW
  clear hW S
  obtain ⟨hx, hf, hz, hr⟩ := (S1.out.box (k := 2) rfl).rpair
  go_upto_region 2 with (fail)
  refine at_objsC (S1.out.setBox 2 (i := 2) (u := .int .i64 n) rfl) (fun W2 hW => ?_)
  clear hx hf hz hr
  have S2 := Lib.hid (show Objs w0 W2 (.box b7 29 (pv q) :: .box b6 35 (sv x) :: .box p 103 (rpv m o n (s.kept.getD saved0) s.kept.isSome) :: .grid m 106 s.cols s.M :: .grid o 106 s.cols s.O :: os) by rw [← rpv_set2 m o s.mode]; exact hW)
  clear hW S1
  obtain ⟨hx, hf, hz, hr⟩ := (S2.out.box (k := 2) rfl).rpair
  obtain ⟨hx6, hf6, hz6, hr6, hp6⟩ := (S2.out.box (k := 1) rfl).saved
  have hst := store_rpv (S2.out.box (k := 2) rfl)
 ·go_wp2_with fail
  go_end0
  refine ⟨rfl, ?_⟩
  rw [HN.out]
  exact Objs.closeRef (m := m) (o := o) S2.out.tail.tail
 ·obtain ⟨hx1, hf1⟩ := S2.out.keptFacts (k := 2) rfl x
  go_upto_region 4 with (fail)
  refine at_objsC (S2.out.keepRef2 (k := 2) rfl x true) (fun W3 hW => ?_)
  clear hx hf hz hr hx1 hf1 hst hx6 hf6 hz6 hr6 hp6
  have S3 := Lib.hid hW
  clear hW S2
  obtain ⟨hx7, hf7, hz7⟩ := (S3.out.box (k := 0) rfl).facts
  have hp7 := (S3.out.box (k := 0) rfl).penAt
  go_wp2_with fail
  refine (rwipe_at q S3.out (k := 2) (j := 4) rfl rfl (by decide) HG.out.c0 HG.out.cm HG.out.O.1 (by rw [HG.out.O.2.1]; exact HG.out.rm)).mono ?_
  rintro e w4 ⟨rfl, hS⟩
  have S4 := Lib.hid hS
  clear hS S3 hx7 hf7 hz7 hp7
  go_wp2_with fail
  go_end0
  refine ⟨rfl, ?_⟩
  rw [HN.out]
  exact Objs.closeRef (m := m) (o := o) S4.out.tail.tail
set_option maxRecDepth 100000 in
set_option maxHeartbeats 4000000 in
theorem rLeave_front {rr : Nat} (n : Int) (q : Pen) (hS : Objs w0 w (refO p s :: os)) (hg : s.good rr) :
  Calls Tryd.prog 58 #[.pointer (some ⟨p, 0, none⟩), .int .i64 n, .agg (pv q)] w fun e w' => e = .returned (.tuple #[.agg (sv ((lvS n s).getD saved0)), .bool (lvS n s).isSome]) ∧ Objs w0 w' (refO p (lvN n q s) :: os) := by
 obtain ⟨m, o, hO⟩ := hS.openRef
 have S := Lib.hid hO
 have HG := Lib.hid hg
 clear hS hO hg
 have hc : n = 1047 ∨ (¬ n = 1047 ∧ n = 1049) ∨ (¬ n = 1047 ∧ ¬ n = 1049) := by omega
 rcases hc with h | ⟨h, h2⟩ | ⟨h, h2⟩
 case' inl => have b2 := beq_yes h; have b3 := bne_yes (show ¬ n = 1049 by omega); have HN := Lib.hid (show lvN n q s = { s with mode := 0, O := wipeN s.cols q s.O } from if_pos h); have HL := Lib.hid (show lvS n s = none from if_neg (by omega)); clear h
 case' inr.inl => have b2 := beq_no h; have b3 := bne_no h2; have HN := Lib.hid (show lvN n q s = { s with mode := 0, kept := none } by unfold lvN; rw [if_neg h, if_pos h2]); have HL := Lib.hid (show lvS n s = s.kept from if_pos h2); clear h h2
 case' inr.inr => have b2 := beq_no h; have b3 := bne_yes h2; have HN := Lib.hid (show lvN n q s = { s with mode := 0 } by unfold lvN; rw [if_neg h, if_neg h2]); have HL := Lib.hid (show lvS n s = none from if_neg h2); clear h h2
 all_goals
  go_enter Tryd.func58, Tryd.ntmps58
  go_upto_region 1 with (fail)
  refine at_objsC (S.out.alloc2 (c1 := pv q) (t1 := 29) (c2 := sv saved0) (t2 := 35)) (fun W hW => ?_)
  generalize w.heap.size + 1 = b6 at hW ⊢
  generalize w.heap.size = b5 at hW ⊢
  have S1 := Lib.hid hW
  clear hW S
  obtain ⟨hx, hf, hz, hr⟩ := (S1.out.box (k := 2) rfl).rpair
  go_upto_region 2 with (fail)
  refine at_objsC (S1.out.setBox 2 (i := 2) (u := .int .i64 0) rfl) (fun W2 hW => ?_)
  clear hx hf hz hr
  have S2 := Lib.hid (show Objs w0 W2 (.box b6 35 (sv saved0) :: .box b5 29 (pv q) :: .box p 103 (rpv m o 0 (s.kept.getD saved0) s.kept.isSome) :: .grid m 106 s.cols s.M :: .grid o 106 s.cols s.O :: os) by rw [← rpv_set2 m o s.mode]; exact hW)
  clear hW S1
 ·have hst6 := fun c => store_sv_row W2 b6 _ c (S2.out.box (k := 0) rfl) rfl
  go_wp2_with fail
  refine at_objsP (S2.out.rowBox 0 (ds := sv saved0) rfl) (fun W6 hW => ?_)
  have S6 := Lib.hid hW
  clear hW
  refine bodyPost_ret (results_cell2 Tryd.results58 _ _ b6 35 _ _ rfl (S6.out.box (k := 0) rfl) Tryd.underlying35 rfl (by rw [sv_size]; exact saved_size)) rfl ?_
  rw [HL.out]
  refine ⟨rfl, ?_⟩
  rw [HN.out]
  exact Objs.closeRef (m := m) (o := o) S6.out.tail.tail
 ·go_upto_region 6 with (fail)
  refine wp_region_stage (w0 := w0) (os := .grid m 106 ↑s.cols s.M :: .grid o 106 ↑s.cols s.O :: os) (by kernel_rfl) (by kernel_rfl) (by kernel_rfl) [(0, 8, [8], fun vs => .box (blkOf (vs 8)) 35 (sv saved0)), (0, 9, [8], fun vs => .box (blkOf (vs 8)) 35 (sv (s.kept.getD saved0)))] [[], [], [], [3], [], [], [], [3], [0], [0], []] [.none, .box b6 35 (sv saved0), .box b5 29 (pv q), .box p 103 (rpv m o 0 (s.kept.getD saved0) s.kept.isSome)] (fun opn u => match opn with | 0 => u = .pointer (some ⟨p, 0, none⟩) | 1 => u = .pointer (some ⟨p, 0, none⟩) | 2 => u = .pointer (some ⟨p, 3, none⟩) | 3 => u = .agg (sv (s.kept.getD saved0)) | 4 => u = .pointer (some ⟨p, 0, none⟩) | 5 => u = .pointer (some ⟨p, 0, none⟩) | 6 => u = .pointer (some ⟨p, 21, none⟩) | 7 => u = .bool s.kept.isSome | 8 => ∃ g, u = .pointer (some ⟨g, 0, none⟩) | 9 => True | 10 => u = .bool s.kept.isSome | _ => True) (fun vs => [.box (blkOf (vs 8)) 35 (sv (s.kept.getD saved0)), .box b6 35 (sv saved0), .box b5 29 (pv q), .box p 103 (rpv m o 0 (s.kept.getD saved0) s.kept.isSome)]) (by kernel_rfl) (fun vs => by rfl) S2.out.pad ?_ ?_
  ·apply sc
   ·intro a w' vs σ hS hl hs hk
    have f0 : a.tmps[0]?.getD undef = .pointer (some ⟨p, 0, none⟩) := sof hk
    exact rp (pt p 0) (by simp [execOp, Act.eval, f0, go_sem]) hl hs hS
   apply sc
   ·intro a w' vs σ hS hl hs hk
    have f21 : a.tmps[21]?.getD undef = .pointer (some ⟨p, 0, none⟩) := sf hk 0
    exact rp (pt p 0) (by simp [execOp, Act.eval, f21, go_sem]) hl hs hS
   apply sc
   ·intro a w' vs σ hS hl hs hk
    have f22 : a.tmps[22]?.getD undef = .pointer (some ⟨p, 0, none⟩) := sf hk 1
    exact rp (pt p 3) (by simp [execOp, Act.eval, f22, go_sem]) hl hs hS
   apply sc
   ·intro a w' vs σ hS hl hs hk
    have f23 : a.tmps[23]?.getD undef = .pointer (some ⟨p, 3, none⟩) := sf hk 2
    have hx := (hS.box (sg (hs 3 (by decide)))).rpair.2.2.2
    exact rp (.agg (sv (s.kept.getD saved0))) (by simp [execOp, Act.eval, f23, go_sem, hx]) hl hs hS
   apply sc
   ·intro a w' vs σ hS hl hs hk
    have f0 : a.tmps[0]?.getD undef = .pointer (some ⟨p, 0, none⟩) := sof hk
    exact rp (pt p 0) (by simp [execOp, Act.eval, f0, go_sem]) hl hs hS
   apply sc
   ·intro a w' vs σ hS hl hs hk
    have f25 : a.tmps[25]?.getD undef = .pointer (some ⟨p, 0, none⟩) := sf hk 4
    exact rp (pt p 0) (by simp [execOp, Act.eval, f25, go_sem]) hl hs hS
   apply sc
   ·intro a w' vs σ hS hl hs hk
    have f26 : a.tmps[26]?.getD undef = .pointer (some ⟨p, 0, none⟩) := sf hk 5
    exact rp (pt p 21) (by simp [execOp, Act.eval, f26, go_sem]) hl hs hS
   apply sc
   ·intro a w' vs σ hS hl hs hk
    have f27 : a.tmps[27]?.getD undef = .pointer (some ⟨p, 21, none⟩) := sf hk 6
    have hx := (hS.box (sg (hs 3 (by decide)))).cell
    exact rp (.bool s.kept.isSome) (by simp [execOp, Act.eval, f27, go_sem, hx]) hl hs hS
   apply sc
   ·intro a w' vs σ hS hl hs hk
    have h1 : σ[0]? = some .none := hs 0 (by decide)
    exact rs_run (v' := .pointer (some ⟨w'.heap.size, 0, none⟩)) (w' := w'.alloc (.cells (sv saved0) 35)) (wanted_none rfl) (by first | (simp [execOp, go_sem]; done) | (simp [execOp, go_sem]; rfl) | rfl) (sp_set 0 (.box w'.heap.size 35 (sv saved0)) (by kernel_rfl) (by simp) (by decide) hl hs (by rfl) (hS.alloc1.place (sg h1)) ⟨_, rfl⟩)
   apply sc
   ·intro a w' vs σ hS hl hs hk
    have e8 : a.tmps.getD 8 undef = vs 8 := sk_val hk 8 (by kernel_rfl) rfl rfl
    have p8 : (fun u : Value => ∃ g, u = .pointer (some ⟨g, 0, none⟩)) (vs 8) := (hk.1 8 (by kernel_rfl)).1
    have f8 := gd e8
    have f24 : a.tmps[24]?.getD undef = .agg (sv (s.kept.getD saved0)) := sf hk 3
    obtain ⟨g9, q9⟩ := p8
    have h1 : σ[0]? = some (.box (blkOf (vs 8)) 35 (sv saved0)) := hs 0 (by decide)
    rw [q9, show blkOf (.pointer (some ⟨g9, 0, none⟩)) = g9 from rfl] at h1
    have hst := store_sv_row w' g9 (sv saved0) (s.kept.getD saved0) (hS.box (sg h1)) (sv_size _)
    exact rstep_store (w2 := w'.setRow g9 (sv (s.kept.getD saved0))) (wanted_none rfl) rfl (by simp [execOp, Act.eval, e8, f8, f24, q9, hst, go_sem]) (sp_set 0 (.box g9 35 (sv (s.kept.getD saved0))) (by kernel_rfl) (by simp) (by decide) hl hs (by show Ob.box (blkOf (vs 8)) 35 (sv (s.kept.getD saved0)) = _; rw [q9]; rfl) (hS.rowBox 0 (ds := sv (s.kept.getD saved0)) (sg h1)) trivial) trivial
   apply sc
   ·intro a w' vs σ hS hl hs hk
    have f28 : a.tmps[28]?.getD undef = .bool s.kept.isSome := sf hk 7
    exact rp (.bool s.kept.isSome) (by simp [execOp, Act.eval, f28, go_sem]) hl hs hS
   exact SSteps.nil
  ·intro vs w' hS hv
   have q0 : vs 0 = _ := hv 0 (by decide)
   have q1 : vs 1 = _ := hv 1 (by decide)
   have q2 : vs 2 = _ := hv 2 (by decide)
   have q3 : vs 3 = _ := hv 3 (by decide)
   have q4 : vs 4 = _ := hv 4 (by decide)
   have q5 : vs 5 = _ := hv 5 (by decide)
   have q6 : vs 6 = _ := hv 6 (by decide)
   have q7 : vs 7 = _ := hv 7 (by decide)
   have q10 : vs 10 = _ := hv 10 (by decide)
   obtain ⟨b8, q8⟩ := (show ∃ g, vs 8 = .pointer (some ⟨g, 0, none⟩) from hv 8 (by decide))
   rw [q8, show blkOf (.pointer (some ⟨b8, 0, none⟩)) = b8 from rfl] at hS
   have S2_ := Lib.hid hS
   simp only [putL, Act.put, Nat.zero_add, Nat.reduceAdd, List.setIfInBounds_toArray, List.set_cons_succ, List.set_cons_zero, q0, q1, q2, q3, q4, q5, q6, q7, q10]
   clear hS hv q0 q1 q2 q3 q4 q5 q6 q7 q10
   simp only [q8]
   have S3 := S2_
   clear S2_ q8
   go_upto_region 7 with (fail)
   obtain ⟨hx, hf, hz, hr⟩ := (S3.out.box (k := 3) rfl).rpair
   have hst := store_rpv (S3.out.box (k := 3) rfl)
   obtain ⟨hx1, hf1⟩ := S3.out.keptFacts (k := 3) rfl saved0
   go_upto_region 8 with (fail)
   refine at_objsC (S3.out.keepRef2 (k := 3) rfl saved0 false) (fun W4 hW => ?_)
   clear hx hf hz hr hst hx1 hf1 S2
   have S4 := Lib.hid hW
   clear hW S3
   obtain ⟨hx8, hf8, hz8, hr8, hp8⟩ := (S4.out.box (k := 0) rfl).saved
   have hst6 := fun c => store_sv_row W4 b6 _ c (S4.out.box (k := 1) rfl) rfl
   go_wp2_with fail
   refine at_objsP (S4.out.rowBox 1 (ds := sv (s.kept.getD saved0)) rfl) (fun W6 hW => ?_)
   have S6 := Lib.hid hW
   clear hW
   refine bodyPost_ret (results_cell2 Tryd.results58 _ _ b6 35 _ _ rfl (S6.out.box (k := 1) rfl) Tryd.underlying35 rfl (by rw [sv_size]; exact saved_size)) rfl ?_
   rw [HL.out]
   refine ⟨rfl, ?_⟩
   rw [HN.out]
   exact Objs.closeRef (m := m) (o := o) S6.out.tail.tail.tail
 ·go_upto_region 3 with (fail)
  obtain ⟨hx7, hf7, hz7⟩ := (S2.out.box (k := 1) rfl).facts
  have hp7 := (S2.out.box (k := 1) rfl).penAt
  go_wp2_with fail
  refine (rwipe_at q S2.out (k := 2) (j := 4) rfl rfl (by decide) HG.out.c0 HG.out.cm HG.out.O.1 (by rw [HG.out.O.2.1]; exact HG.out.rm)).mono ?_
  rintro e w4 ⟨rfl, hS⟩
  have S4 := Lib.hid hS
  clear hS S2 hx7 hf7 hz7 hp7
  have hst6 := fun c => store_sv_row w4 b6 _ c (S4.out.box (k := 0) rfl) rfl
  go_wp2_with fail
  refine at_objsP (S4.out.rowBox 0 (ds := sv saved0) rfl) (fun W6 hW => ?_)
  have S6 := Lib.hid hW
  clear hW
  refine bodyPost_ret (results_cell2 Tryd.results58 _ _ b6 35 _ _ rfl (S6.out.box (k := 0) rfl) Tryd.underlying35 rfl (by rw [sv_size]; exact saved_size)) rfl ?_
  rw [HL.out]
  refine ⟨rfl, ?_⟩
  rw [HN.out]
  exact Objs.closeRef (m := m) (o := o) S6.out.tail.tail
end
end Go.Proofs.YtdndoikgnohkkaaDoor

namespace Go.Proofs.YtdndoikgnohkkaaDoor
open Go.RowKit

theorem eqIn_fn (d : Nat) (f : FuncId) (a b : Array Value) (w : World) : (Op.equalIn (d + 1) 52 (.func (.func f) a b) .nilFunc).run Tryd.prog w = .ok false w := by
 have u := Tryd.underlying52
 simp [Op.equalIn, run_underlying u]
theorem eqIn_fn0 (d : Nat) (w : World) : (Op.equalIn (d + 1) 52 .nilFunc .nilFunc).run Tryd.prog w = .ok true w := by
 have u := Tryd.underlying52
 simp [Op.equalIn, run_underlying u]
@[go_sem] theorem eql_fn (f : FuncId) (a b : Array Value) (w : World) : (binOp .eql 52 (.func (.func f) a b) .nilFunc).run Tryd.prog w = .ok (.bool false) w := by
 simp [binOp, Op.equal, show Op.maxDepth = 9999 + 1 from rfl, eqIn_fn 9999 f a b w]
@[go_sem] theorem eql_fn0 (w : World) : (binOp .eql 52 .nilFunc .nilFunc).run Tryd.prog w = .ok (.bool true) w := by
 simp [binOp, Op.equal, show Op.maxDepth = 9999 + 1 from rfl, eqIn_fn0 9999 w]
@[go_sem] theorem make_fn (fn : Fn) (first cap : Array Value) (w : World) : (Instr.makeFunc fn first cap).run Tryd.prog w = .ok (.func fn first cap) w := rfl
theorem ro_callv {ops : Array Oper} {Q : Exit → Act → World → Prop} {o : Oper} {a : Act} {w : World} {Φ : Value → World → Prop} {R : World → World → Prop} {f : FuncId} {first cap : Array Value} {xf : Operand} {xs : Array Operand} {args : Array Value} {ts : Array TypeId} (hw : Region.wanted o (yielded ops a.tmps) = true)
  (ho : o.op = .call { callee := .value xf, args := xs, argTypes := ts }) (hv : a.eval xf = .func (.func f) first cap) (hx : xs.map a.eval = args)
  (hf : ∀ (vs : Array Value) (w : World), (callFunc f vs).run Tryd.prog w = .ok (.enter f vs) w) (hc : Calls Tryd.prog f (first ++ args ++ cap) w fun e w2 => ∃ v, e = .returned v ∧ Φ v w2 ∧ R w w2) : RStep Tryd.prog ops Q Φ R o a w := by
 refine rstep_call (f := f) (args := first ++ args ++ cap) hw ?_ hc
 unfold execOp
 subst hx
 simp only [ho, resolve, hv, Deferred.ofValue, invoke, Sem.run_bind, Sem.run_pure, Result.andThen_ok]
 simp [go_sem, hf]
theorem front_app {P : Program} {f : FuncId} {args : Array Value} {k : Nat} {o o' : Ob} {r : Value} {w0 w : World} {σ os : List Ob} (hl : k < σ.length) (hk : σ[k]? = some o) (hS : Objs w0 w (σ ++ os))
  (hc : ∀ zs, Objs w0 w (o :: (zs ++ os)) → Calls P f args w fun e w' => e = .returned r ∧ Objs w0 w' (o' :: (zs ++ os))) : Calls P f args w fun e w' => e = .returned r ∧ Objs w0 w' ((σ ++ os).set k o') := by
 have hk' : (σ ++ os)[k]? = some o := by rw [List.getElem?_append_left hl]; exact hk
 have h1 := hS.lift hk'
 rw [List.set_append_left _ _ hl] at h1
 refine (hc _ h1).mono fun e w' ⟨a, b⟩ => ⟨a, ?_⟩
 refine Objs.lower hk' ?_
 rw [List.set_append_left _ _ hl]
 exact b
def Pr.setU (s : Pr) (L : List Ln) : Pr := if s.mode = 0 then { s with M := L } else { s with O := L }
section
variable {w0 w : World} {os : List Ob} {p : Nat} {s : Pr}
set_option maxRecDepth 100000 in
set_option maxHeartbeats 4000000 in
theorem Do_front {f : FuncId} {first cap : Array Value} {re : Int} {L2 : List Ln} (hf : ∀ (vs : Array Value) (w : World), (callFunc f vs).run Tryd.prog w = .ok (.enter f vs) w) (hS : Objs w0 w (pairO p s :: os))
  (hc : ∀ (W : World) (g : Nat) (zs : List Ob), Objs w0 W (.grid g 83 s.cols s.U :: (zs ++ os)) → Calls Tryd.prog f (first ++ #[.pointer (some ⟨g, 0, none⟩)] ++ cap) W fun e w' => e = .returned (.int .i64 re) ∧ Objs w0 w' (.grid g 83 s.cols L2 :: (zs ++ os))) :
  Calls Tryd.prog 17 #[.pointer (some ⟨p, 0, none⟩), .func (.func f) first cap] w fun e w' => e = .returned (.int .i64 re) ∧ Objs w0 w' (pairO p (s.setU L2) :: os) := by
 obtain ⟨g, m, kv, ko, hK, hO⟩ := hS.openPair
 have HK := Lib.hid hK
 have HC := Lib.hid hc
 have HF := Lib.hid hf
 clear hS hK hc hf
 have hcc : (s.mode = 0 ∧ used24 s.mode = 0 ∧ s.U = s.M ∧ s.setU L2 = { s with M := L2 }) ∨ (¬ s.mode = 0 ∧ used24 s.mode = 1 ∧ s.U = s.O ∧ s.setU L2 = { s with O := L2 }) := by
  unfold used24 Pr.U Pr.setU
  by_cases h : s.mode = 0
  ·exact .inl ⟨h, if_pos h, if_pos h, if_pos h⟩
  ·exact .inr ⟨h, if_neg h, if_neg h, if_neg h⟩
 rcases hcc with ⟨h1, h2, h3, h4⟩ | ⟨h1, h2, h3, h4⟩
 all_goals
  rw [h2] at hO
  rw [h3] at HC
  have H2 := Lib.hid h2
  have H4 := Lib.hid h4
  have S := Lib.hid hO
  clear hO h1 h2 h3 h4
  go_enter Tryd.func17, Tryd.ntmps17
  go_wp2_with fail
  refine (pnone_no S.out (k := 0) rfl).mono ?_
  rintro e w1 ⟨rfl, hS⟩
  have S1 := Lib.hid hS
  clear hS S
  go_upto_region 5 with (fail)
 ·refine wp_region_stage (w0 := w0) (os := os) (by kernel_rfl) (by kernel_rfl) (by kernel_rfl) [(1, 10, [], fun vs => .grid g 83 ↑s.cols L2)] [[], [], [], [], [], [0], [], [], [], [0], [1], []] [.box p 44 #[.pointer (some ⟨g, 0, none⟩), .pointer (some ⟨m, 0, none⟩), .int .i64 0, .int .i64 s.mode, kv], .grid g 83 ↑s.cols s.M, .grid m 83 ↑s.cols s.O, ko] (fun opn u => match opn with | 0 => u = .func (.func f) first cap | 1 => u = .pointer (some ⟨p, 0, none⟩) | 2 => u = .pointer (some ⟨p, 0, none⟩) | 3 => u = .pointer (some ⟨p, 0, none⟩) | 4 => u = .pointer (some ⟨p, 2, none⟩) | 5 => u = .int .i64 0 | 6 => u = .pointer (some ⟨p, 0, none⟩) | 7 => u = .pointer (some ⟨p, 0, none⟩) | 8 => u = .pointer (some ⟨p, 0, none⟩) | 9 => u = .pointer (some ⟨g, 0, none⟩) | 10 => u = .int .i64 re | 11 => u = .int .i64 re | _ => True) (fun vs => [.box p 44 #[.pointer (some ⟨g, 0, none⟩), .pointer (some ⟨m, 0, none⟩), .int .i64 0, .int .i64 s.mode, kv], .grid g 83 ↑s.cols L2, .grid m 83 ↑s.cols s.O, ko]) (by kernel_rfl) (fun vs => by rfl) S1.out ?_ ?_
  ·apply sc
   ·intro a w' vs σ hS hl hs hk
    have f1 : a.tmps[1]?.getD undef = .func (.func f) first cap := sof hk
    exact rp (.func (.func f) first cap) (by simp [execOp, Act.eval, f1, go_sem]) hl hs hS
   apply sc
   ·intro a w' vs σ hS hl hs hk
    have f0 : a.tmps[0]?.getD undef = .pointer (some ⟨p, 0, none⟩) := sof hk
    exact rp (pt p 0) (by simp [execOp, Act.eval, f0, go_sem]) hl hs hS
   apply sc
   ·intro a w' vs σ hS hl hs hk
    have f0 : a.tmps[0]?.getD undef = .pointer (some ⟨p, 0, none⟩) := sof hk
    exact rp (pt p 0) (by simp [execOp, Act.eval, f0, go_sem]) hl hs hS
   apply sc
   ·intro a w' vs σ hS hl hs hk
    have f13 : a.tmps[13]?.getD undef = .pointer (some ⟨p, 0, none⟩) := sf hk 2
    exact rp (pt p 0) (by simp [execOp, Act.eval, f13, go_sem]) hl hs hS
   apply sc
   ·intro a w' vs σ hS hl hs hk
    have f14 : a.tmps[14]?.getD undef = .pointer (some ⟨p, 0, none⟩) := sf hk 3
    exact rp (pt p 2) (by simp [execOp, Act.eval, f14, go_sem]) hl hs hS
   apply sc
   ·intro a w' vs σ hS hl hs hk
    have f15 : a.tmps[15]?.getD undef = .pointer (some ⟨p, 2, none⟩) := sf hk 4
    have hx := (hS.box (sg (hs 0 (by decide)))).cell
    exact rp (.int .i64 0) (by simp [execOp, Act.eval, f15, go_sem, hx]) hl hs hS
   apply sc
   ·intro a w' vs σ hS hl hs hk
    have f12 : a.tmps[12]?.getD undef = .pointer (some ⟨p, 0, none⟩) := sf hk 1
    exact rp (pt p 0) (by simp [execOp, Act.eval, f12, go_sem]) hl hs hS
   apply sc
   ·intro a w' vs σ hS hl hs hk
    have f17 : a.tmps[17]?.getD undef = .pointer (some ⟨p, 0, none⟩) := sf hk 6
    exact rp (pt p 0) (by simp [execOp, Act.eval, f17, go_sem]) hl hs hS
   apply sc
   ·intro a w' vs σ hS hl hs hk
    have f18 : a.tmps[18]?.getD undef = .pointer (some ⟨p, 0, none⟩) := sf hk 7
    have f16 : a.tmps[16]?.getD undef = .int .i64 0 := sf hk 5
    exact rp (pt p 0) (by simp [execOp, Act.eval, f18, f16, go_sem]) hl hs hS
   apply sc
   ·intro a w' vs σ hS hl hs hk
    have f19 : a.tmps[19]?.getD undef = .pointer (some ⟨p, 0, none⟩) := sf hk 8
    have hx := (hS.box (sg (hs 0 (by decide)))).cell
    exact rp (pt g 0) (by simp [execOp, Act.eval, f19, go_sem, hx]) hl hs hS
   apply sc
   ·intro a w' vs σ hS hl hs hk
    have e11 : a.tmps.getD 11 undef = .func (.func f) first cap := svv hk 0
    have e20 : a.tmps.getD 20 undef = pt g 0 := svv hk 9
    have h1 : σ[1]? = some (.grid g 83 ↑s.cols s.M) := hs 1 (by decide)
    exact ro_callv (f := f) (first := first) (cap := cap) (wanted_none rfl) rfl (by simp only [Act.eval]; exact e11) (by simp only [List.map_toArray, List.map_cons, List.map_nil, Act.eval, e20] <;> rfl) HF.out ((front_app (by rw [hl]; simp) h1 hS (fun zs h => HC.out w' g zs h)).mono fun e w2 ⟨h1, h2⟩ => ⟨_, h1, sp_set 1 (.grid g 83 ↑s.cols L2) (by kernel_rfl) (by simp) (by decide) hl hs (by rfl) h2 rfl, trivial⟩)
   apply sc
   ·intro a w' vs σ hS hl hs hk
    have f21 : a.tmps[21]?.getD undef = .int .i64 re := sf hk 10
    exact rp (.int .i64 re) (by simp [execOp, Act.eval, f21, go_sem]) hl hs hS
   exact SSteps.nil
  ·intro vs w' hS hv
   have q0 : vs 0 = _ := hv 0 (by decide)
   have q1 : vs 1 = _ := hv 1 (by decide)
   have q2 : vs 2 = _ := hv 2 (by decide)
   have q3 : vs 3 = _ := hv 3 (by decide)
   have q4 : vs 4 = _ := hv 4 (by decide)
   have q5 : vs 5 = _ := hv 5 (by decide)
   have q6 : vs 6 = _ := hv 6 (by decide)
   have q7 : vs 7 = _ := hv 7 (by decide)
   have q8 : vs 8 = _ := hv 8 (by decide)
   have q9 : vs 9 = _ := hv 9 (by decide)
   have q10 : vs 10 = _ := hv 10 (by decide)
   have q11 : vs 11 = _ := hv 11 (by decide)
   have S2 := Lib.hid hS
   simp only [putL, Act.put, Nat.zero_add, Nat.reduceAdd, List.setIfInBounds_toArray, List.set_cons_succ, List.set_cons_zero, q0, q1, q2, q3, q4, q5, q6, q7, q8, q9, q10, q11]
   clear hS hv q0 q1 q2 q3 q4 q5 q6 q7 q8 q9 q10 q11
   have S2_ := S2
   go_wp2_with fail
   go_ret
   rw [H4.out]
   refine ⟨rfl, Objs.closePair (g := g) (m := m) (kv := kv) (ko := ko) ?_ HK.out⟩
   show Objs w0 w' (.box p 44 #[.pointer (some ⟨g, 0, none⟩), .pointer (some ⟨m, 0, none⟩), .int .i64 (used24 s.mode), .int .i64 s.mode, kv] :: _)
   rw [H2.out]
   exact S2.out
 ·refine wp_region_stage (w0 := w0) (os := os) (by kernel_rfl) (by kernel_rfl) (by kernel_rfl) [(2, 10, [], fun vs => .grid m 83 ↑s.cols L2)] [[], [], [], [], [], [0], [], [], [], [0], [2], []] [.box p 44 #[.pointer (some ⟨g, 0, none⟩), .pointer (some ⟨m, 0, none⟩), .int .i64 1, .int .i64 s.mode, kv], .grid g 83 ↑s.cols s.M, .grid m 83 ↑s.cols s.O, ko] (fun opn u => match opn with | 0 => u = .func (.func f) first cap | 1 => u = .pointer (some ⟨p, 0, none⟩) | 2 => u = .pointer (some ⟨p, 0, none⟩) | 3 => u = .pointer (some ⟨p, 0, none⟩) | 4 => u = .pointer (some ⟨p, 2, none⟩) | 5 => u = .int .i64 1 | 6 => u = .pointer (some ⟨p, 0, none⟩) | 7 => u = .pointer (some ⟨p, 0, none⟩) | 8 => u = .pointer (some ⟨p, 1, none⟩) | 9 => u = .pointer (some ⟨m, 0, none⟩) | 10 => u = .int .i64 re | 11 => u = .int .i64 re | _ => True) (fun vs => [.box p 44 #[.pointer (some ⟨g, 0, none⟩), .pointer (some ⟨m, 0, none⟩), .int .i64 1, .int .i64 s.mode, kv], .grid g 83 ↑s.cols s.M, .grid m 83 ↑s.cols L2, ko]) (by kernel_rfl) (fun vs => by rfl) S1.out ?_ ?_
  ·apply sc
   ·intro a w' vs σ hS hl hs hk
    have f1 : a.tmps[1]?.getD undef = .func (.func f) first cap := sof hk
    exact rp (.func (.func f) first cap) (by simp [execOp, Act.eval, f1, go_sem]) hl hs hS
   apply sc
   ·intro a w' vs σ hS hl hs hk
    have f0 : a.tmps[0]?.getD undef = .pointer (some ⟨p, 0, none⟩) := sof hk
    exact rp (pt p 0) (by simp [execOp, Act.eval, f0, go_sem]) hl hs hS
   apply sc
   ·intro a w' vs σ hS hl hs hk
    have f0 : a.tmps[0]?.getD undef = .pointer (some ⟨p, 0, none⟩) := sof hk
    exact rp (pt p 0) (by simp [execOp, Act.eval, f0, go_sem]) hl hs hS
   apply sc
   ·intro a w' vs σ hS hl hs hk
    have f13 : a.tmps[13]?.getD undef = .pointer (some ⟨p, 0, none⟩) := sf hk 2
    exact rp (pt p 0) (by simp [execOp, Act.eval, f13, go_sem]) hl hs hS
   apply sc
   ·intro a w' vs σ hS hl hs hk
    have f14 : a.tmps[14]?.getD undef = .pointer (some ⟨p, 0, none⟩) := sf hk 3
    exact rp (pt p 2) (by simp [execOp, Act.eval, f14, go_sem]) hl hs hS
   apply sc
   ·intro a w' vs σ hS hl hs hk
    have f15 : a.tmps[15]?.getD undef = .pointer (some ⟨p, 2, none⟩) := sf hk 4
    have hx := (hS.box (sg (hs 0 (by decide)))).cell
    exact rp (.int .i64 1) (by simp [execOp, Act.eval, f15, go_sem, hx]) hl hs hS
   apply sc
   ·intro a w' vs σ hS hl hs hk
    have f12 : a.tmps[12]?.getD undef = .pointer (some ⟨p, 0, none⟩) := sf hk 1
    exact rp (pt p 0) (by simp [execOp, Act.eval, f12, go_sem]) hl hs hS
   apply sc
   ·intro a w' vs σ hS hl hs hk
    have f17 : a.tmps[17]?.getD undef = .pointer (some ⟨p, 0, none⟩) := sf hk 6
    exact rp (pt p 0) (by simp [execOp, Act.eval, f17, go_sem]) hl hs hS
   apply sc
   ·intro a w' vs σ hS hl hs hk
    have f18 : a.tmps[18]?.getD undef = .pointer (some ⟨p, 0, none⟩) := sf hk 7
    have f16 : a.tmps[16]?.getD undef = .int .i64 1 := sf hk 5
    exact rp (pt p 1) (by simp [execOp, Act.eval, f18, f16, go_sem]) hl hs hS
   apply sc
   ·intro a w' vs σ hS hl hs hk
    have f19 : a.tmps[19]?.getD undef = .pointer (some ⟨p, 1, none⟩) := sf hk 8
    have hx := (hS.box (sg (hs 0 (by decide)))).cell
    exact rp (pt m 0) (by simp [execOp, Act.eval, f19, go_sem, hx]) hl hs hS
   apply sc
   ·intro a w' vs σ hS hl hs hk
    have e11 : a.tmps.getD 11 undef = .func (.func f) first cap := svv hk 0
    have e20 : a.tmps.getD 20 undef = pt m 0 := svv hk 9
    have h1 : σ[2]? = some (.grid m 83 ↑s.cols s.O) := hs 2 (by decide)
    exact ro_callv (f := f) (first := first) (cap := cap) (wanted_none rfl) rfl (by simp only [Act.eval]; exact e11) (by simp only [List.map_toArray, List.map_cons, List.map_nil, Act.eval, e20] <;> rfl) HF.out ((front_app (by rw [hl]; simp) h1 hS (fun zs h => HC.out w' m zs h)).mono fun e w2 ⟨h1, h2⟩ => ⟨_, h1, sp_set 2 (.grid m 83 ↑s.cols L2) (by kernel_rfl) (by simp) (by decide) hl hs (by rfl) h2 rfl, trivial⟩)
   apply sc
   ·intro a w' vs σ hS hl hs hk
    have f21 : a.tmps[21]?.getD undef = .int .i64 re := sf hk 10
    exact rp (.int .i64 re) (by simp [execOp, Act.eval, f21, go_sem]) hl hs hS
   exact SSteps.nil
  ·intro vs w' hS hv
   have q0 : vs 0 = _ := hv 0 (by decide)
   have q1 : vs 1 = _ := hv 1 (by decide)
   have q2 : vs 2 = _ := hv 2 (by decide)
   have q3 : vs 3 = _ := hv 3 (by decide)
   have q4 : vs 4 = _ := hv 4 (by decide)
   have q5 : vs 5 = _ := hv 5 (by decide)
   have q6 : vs 6 = _ := hv 6 (by decide)
   have q7 : vs 7 = _ := hv 7 (by decide)
   have q8 : vs 8 = _ := hv 8 (by decide)
   have q9 : vs 9 = _ := hv 9 (by decide)
   have q10 : vs 10 = _ := hv 10 (by decide)
   have q11 : vs 11 = _ := hv 11 (by decide)
   have S2 := Lib.hid hS
   simp only [putL, Act.put, Nat.zero_add, Nat.reduceAdd, List.setIfInBounds_toArray, List.set_cons_succ, List.set_cons_zero, q0, q1, q2, q3, q4, q5, q6, q7, q8, q9, q10, q11]
   clear hS hv q0 q1 q2 q3 q4 q5 q6 q7 q8 q9 q10 q11
   have S2_ := S2
   go_wp2_with fail
   go_ret
   rw [H4.out]
   refine ⟨rfl, Objs.closePair (g := g) (m := m) (kv := kv) (ko := ko) ?_ HK.out⟩
   show Objs w0 w' (.box p 44 #[.pointer (some ⟨g, 0, none⟩), .pointer (some ⟨m, 0, none⟩), .int .i64 (used24 s.mode), .int .i64 s.mode, kv] :: _)
   rw [H2.out]
   exact S2.out
theorem Do_nil (v : Value) (hS : Objs w0 w os) : Calls Tryd.prog 17 #[.pointer none, v] w fun e w' => e = .returned (.int .i64 1) ∧ Objs w0 w' os := by
 have S := Lib.hid hS
 clear hS
 go_enter Tryd.func17, Tryd.ntmps17
 go_wp2_with fail
 refine (pnone_nil _).mono ?_
 rintro e w1 ⟨rfl, rfl⟩
 go_wp2_with fail
 go_ret
 exact ⟨rfl, S.out⟩
theorem Do_zero {k : Nat} {a b c d : Value} (v : Value) (hS : Objs w0 w os) (hk : os[k]? = some (.box p 44 #[.pointer none, a, b, c, d])) : Calls Tryd.prog 17 #[.pointer (some ⟨p, 0, none⟩), v] w fun e w' => e = .returned (.int .i64 1) ∧ Objs w0 w' os := by
 have S := Lib.hid hS
 have HK := Lib.hid hk
 clear hS hk
 go_enter Tryd.func17, Tryd.ntmps17
 go_wp2_with fail
 refine (pnone_zero S.out HK.out).mono ?_
 rintro e w1 ⟨rfl, hS⟩
 have S1 := Lib.hid hS
 clear hS
 go_wp2_with fail
 go_ret
 exact ⟨rfl, S1.out⟩
end
end Go.Proofs.YtdndoikgnohkkaaDoor

namespace Go.Proofs.YtdndoikgnohkkaaDoor
open Go.RowKit

def newL (rows cols : Nat) : List Ln := List.replicate rows (List.replicate cols (blank pen0), false)
def newP (rows cols : Nat) : Pr := ⟨cols, newL rows cols, newL rows cols, 0, none⟩
theorem newP_good {rows cols : Nat} (h1 : 1 ≤ rows) (h2 : rows ≤ 1000) (h3 : 1 ≤ cols) (h4 : cols ≤ 1000) : (newP rows cols).good rows := ⟨h3, h4, h1, h2, k24_new cols rows, k24_new cols rows⟩
section
variable {w0 w : World} {os : List Ob} {p : Nat} {s : Pr}
theorem Objs.closePair1 {g m : Nat} {kv : Value} {ko x : Ob} (h : Objs w0 w (x :: .box p 44 #[.pointer (some ⟨g, 0, none⟩), .pointer (some ⟨m, 0, none⟩), .int .i64 (used24 s.mode), .int .i64 s.mode, kv] :: .grid g 83 s.cols s.M :: .grid m 83 s.cols s.O :: ko :: os)) (hk : keptIs kv ko s.kept) : Objs w0 w (x :: pairO p s :: os) :=
 Objs.swap (Objs.closePair (g := g) (m := m) (kv := kv) (ko := ko) (os := x :: os) (Objs.pick (σ := [_, _, _, _, _]) (os := os) h [some 1, some 2, some 3, some 4, some 0] (by decide) rfl) hk)
set_option maxRecDepth 100000 in
set_option maxHeartbeats 4000000 in
theorem Main_front {rr : Nat} (hS : Objs w0 w (pairO p s :: os)) (hg : s.good rr) :
  Calls Tryd.prog 14 #[.pointer (some ⟨p, 0, none⟩)] w fun e w' => ∃ x, e = .returned (.pointer (some ⟨x, 0, none⟩)) ∧ Objs w0 w' (.grid x 83 s.cols s.M :: pairO p s :: os) := by
 obtain ⟨g, m, kv, ko, hK, hO⟩ := hS.openPair
 have S := Lib.hid hO
 have HK := Lib.hid hK
 have HG := Lib.hid hg
 clear hS hK hO hg
 go_enter Tryd.func14, Tryd.ntmps14
 go_wp2_with fail
 refine (pnone_no S.out (k := 0) rfl).mono ?_
 rintro e w1 ⟨rfl, hS⟩
 have S1 := Lib.hid hS
 clear hS S
 obtain ⟨hx, hf, hz⟩ := (S1.out.box (k := 0) rfl).facts
 go_wp2_with fail
 refine (CopyG S1.out (k := 1) rfl HG.out.c0 HG.out.cm HG.out.M.1 (by rw [HG.out.M.2.1]; have := HG.out.rm; omega)).mono ?_
 rintro e w2 ⟨x, rfl, hS⟩
 have S2 := Lib.hid hS
 clear hS hx hf hz
 go_wp2_with fail
 go_ret
 exact ⟨x, rfl, S2.out.closePair1 HK.out⟩
set_option maxRecDepth 100000 in
set_option maxHeartbeats 4000000 in
theorem Grid_front {rr : Nat} (hS : Objs w0 w (pairO p s :: os)) (hg : s.good rr) :
  Calls Tryd.prog 13 #[.pointer (some ⟨p, 0, none⟩)] w fun e w' => ∃ x, e = .returned (.pointer (some ⟨x, 0, none⟩)) ∧ Objs w0 w' (.grid x 83 s.cols s.U :: pairO p s :: os) := by
 obtain ⟨g, m, kv, ko, hK, hO⟩ := hS.openPair
 have HK := Lib.hid hK
 have HG := Lib.hid hg
 clear hS hK hg
 have hcc : (used24 s.mode = 0 ∧ s.U = s.M) ∨ (used24 s.mode = 1 ∧ s.U = s.O) := by
  unfold used24 Pr.U
  by_cases h : s.mode = 0
  ·exact .inl ⟨if_pos h, if_pos h⟩
  ·exact .inr ⟨if_neg h, if_neg h⟩
 rcases hcc with ⟨h2, h3⟩ | ⟨h2, h3⟩
 all_goals
  rw [h2] at hO
  have H2 := Lib.hid h2
  have H3 := Lib.hid h3
  have S := Lib.hid hO
  clear hO h2 h3
  go_enter Tryd.func13, Tryd.ntmps13
  go_wp2_with fail
  refine (pnone_no S.out (k := 0) rfl).mono ?_
  rintro e w1 ⟨rfl, hS⟩
  have S1 := Lib.hid hS
  clear hS S
  go_upto_region 3 with (fail)
 ·refine wp_region_stage (w0 := w0) (os := os) (by kernel_rfl) (by kernel_rfl) (by kernel_rfl) [(0, 9, [9], fun vs => .grid (blkOf (vs 9)) 83 ↑s.cols s.M), (0, 10, [10], fun vs => .grid (blkOf (vs 10)) 83 ↑s.cols s.M)] [[], [], [], [], [1], [], [], [], [1], [0, 2], [0]] [.none, .box p 44 #[.pointer (some ⟨g, 0, none⟩), .pointer (some ⟨m, 0, none⟩), .int .i64 0, .int .i64 s.mode, kv], .grid g 83 ↑s.cols s.M, .grid m 83 ↑s.cols s.O, ko] (fun opn u => match opn with | 0 => u = .pointer (some ⟨p, 0, none⟩) | 1 => u = .pointer (some ⟨p, 0, none⟩) | 2 => u = .pointer (some ⟨p, 0, none⟩) | 3 => u = .pointer (some ⟨p, 2, none⟩) | 4 => u = .int .i64 0 | 5 => u = .pointer (some ⟨p, 0, none⟩) | 6 => u = .pointer (some ⟨p, 0, none⟩) | 7 => u = .pointer (some ⟨p, 0, none⟩) | 8 => u = .pointer (some ⟨g, 0, none⟩) | 9 => ∃ x, u = .pointer (some ⟨x, 0, none⟩) | 10 => ∃ x, u = .pointer (some ⟨x, 0, none⟩) | _ => True) (fun vs => [.grid (blkOf (vs 10)) 83 ↑s.cols s.M, .box p 44 #[.pointer (some ⟨g, 0, none⟩), .pointer (some ⟨m, 0, none⟩), .int .i64 0, .int .i64 s.mode, kv], .grid g 83 ↑s.cols s.M, .grid m 83 ↑s.cols s.O, ko]) (by kernel_rfl) (fun vs => by rfl) S1.out.pad ?_ ?_
  ·apply sc
   ·intro a w' vs σ hS hl hs hk
    have f0 : a.tmps[0]?.getD undef = .pointer (some ⟨p, 0, none⟩) := sof hk
    exact rp (pt p 0) (by simp [execOp, Act.eval, f0, go_sem]) hl hs hS
   apply sc
   ·intro a w' vs σ hS hl hs hk
    have f0 : a.tmps[0]?.getD undef = .pointer (some ⟨p, 0, none⟩) := sof hk
    exact rp (pt p 0) (by simp [execOp, Act.eval, f0, go_sem]) hl hs hS
   apply sc
   ·intro a w' vs σ hS hl hs hk
    have f6 : a.tmps[6]?.getD undef = .pointer (some ⟨p, 0, none⟩) := sf hk 1
    exact rp (pt p 0) (by simp [execOp, Act.eval, f6, go_sem]) hl hs hS
   apply sc
   ·intro a w' vs σ hS hl hs hk
    have f7 : a.tmps[7]?.getD undef = .pointer (some ⟨p, 0, none⟩) := sf hk 2
    exact rp (pt p 2) (by simp [execOp, Act.eval, f7, go_sem]) hl hs hS
   apply sc
   ·intro a w' vs σ hS hl hs hk
    have f8 : a.tmps[8]?.getD undef = .pointer (some ⟨p, 2, none⟩) := sf hk 3
    have hx := (hS.box (sg (hs 1 (by decide)))).cell
    exact rp (.int .i64 0) (by simp [execOp, Act.eval, f8, go_sem, hx]) hl hs hS
   apply sc
   ·intro a w' vs σ hS hl hs hk
    have f5 : a.tmps[5]?.getD undef = .pointer (some ⟨p, 0, none⟩) := sf hk 0
    exact rp (pt p 0) (by simp [execOp, Act.eval, f5, go_sem]) hl hs hS
   apply sc
   ·intro a w' vs σ hS hl hs hk
    have f10 : a.tmps[10]?.getD undef = .pointer (some ⟨p, 0, none⟩) := sf hk 5
    exact rp (pt p 0) (by simp [execOp, Act.eval, f10, go_sem]) hl hs hS
   apply sc
   ·intro a w' vs σ hS hl hs hk
    have f11 : a.tmps[11]?.getD undef = .pointer (some ⟨p, 0, none⟩) := sf hk 6
    have f9 : a.tmps[9]?.getD undef = .int .i64 0 := sf hk 4
    exact rp (pt p 0) (by simp [execOp, Act.eval, f11, f9, go_sem]) hl hs hS
   apply sc
   ·intro a w' vs σ hS hl hs hk
    have f12 : a.tmps[12]?.getD undef = .pointer (some ⟨p, 0, none⟩) := sf hk 7
    have hx := (hS.box (sg (hs 1 (by decide)))).cell
    exact rp (pt g 0) (by simp [execOp, Act.eval, f12, go_sem, hx]) hl hs hS
   apply sc
   ·intro a w' vs σ hS hl hs hk
    have e13 : a.tmps.getD 13 undef = .pointer (some ⟨g, 0, none⟩) := svv hk 8
    have h0 : σ[0]? = some .none := hs 0 (by decide)
    have h1 : σ[2]? = some (.grid g 83 ↑s.cols s.M) := hs 2 (by decide)
    exact ro_call (f := 39) (wanted_none rfl) rfl (by simp only [List.map_toArray, List.map_cons, List.map_nil, Act.eval, e13] <;> rfl) (fun _ _ => by kernel_rfl) ((CopyG hS (sg h1) HG.out.c0 HG.out.cm HG.out.M.1 (by rw [HG.out.M.2.1]; have := HG.out.rm; omega)).mono fun e w2 ⟨x, h1, h2⟩ => ⟨_, h1, sp_set 0 (.grid x 83 ↑s.cols s.M) (by kernel_rfl) (by simp) (by decide) hl hs (by rfl) (h2.place (sg h0)) ⟨x, rfl⟩, trivial⟩)
   apply sc
   ·intro a w' vs σ hS hl hs hk
    have e14 : a.tmps.getD 14 undef = vs 9 := sk_val hk 9 (by kernel_rfl) rfl rfl
    have p14 : (fun u : Value => ∃ x, u = .pointer (some ⟨x, 0, none⟩)) (vs 9) := (hk.1 9 (by kernel_rfl)).1
    obtain ⟨x, q9⟩ := p14
    have e9 := e14.trans q9
    have f9 := gd e9
    have h0 : σ[0]? = some (.grid (blkOf (vs 9)) 83 ↑s.cols s.M) := hs 0 (by decide)
    rw [q9, show blkOf (.pointer (some ⟨x, 0, none⟩)) = x from rfl] at h0
    have hSS : Objs w0 w' ((σ ++ os).set 0 (.grid x 83 ↑s.cols s.M)) := by rw [set_self (sg h0)]; exact hS
    exact rs_run (v' := .pointer (some ⟨x, 0, none⟩)) (w' := w') (wanted_none rfl) (by simp [execOp, Act.eval, e9, f9, go_sem]) (sp_set 0 (.grid x 83 ↑s.cols s.M) (by kernel_rfl) (by simp) (by decide) hl hs (by rfl) hSS ⟨x, rfl⟩)
   exact SSteps.nil
  ·intro vs w' hS hv
   have q0 : vs 0 = _ := hv 0 (by decide)
   have q1 : vs 1 = _ := hv 1 (by decide)
   have q2 : vs 2 = _ := hv 2 (by decide)
   have q3 : vs 3 = _ := hv 3 (by decide)
   have q4 : vs 4 = _ := hv 4 (by decide)
   have q5 : vs 5 = _ := hv 5 (by decide)
   have q6 : vs 6 = _ := hv 6 (by decide)
   have q7 : vs 7 = _ := hv 7 (by decide)
   have q8 : vs 8 = _ := hv 8 (by decide)
   obtain ⟨x, q10⟩ := (show ∃ x, vs 10 = .pointer (some ⟨x, 0, none⟩) from hv 10 (by decide))
   rw [q10, show blkOf (.pointer (some ⟨x, 0, none⟩)) = x from rfl] at hS
   have S2 := Lib.hid hS
   simp only [putL, Act.put, Nat.zero_add, Nat.reduceAdd, List.setIfInBounds_toArray, List.set_cons_succ, List.set_cons_zero, q0, q1, q2, q3, q4, q5, q6, q7, q8]
   clear hS hv q0 q1 q2 q3 q4 q5 q6 q7 q8
   simp only [q10]
   go_wp2_with fail
   go_ret
   rw [H3.out]
   refine ⟨x, rfl, Objs.closePair1 (g := g) (m := m) (kv := kv) (ko := ko) ?_ HK.out⟩
   show Objs w0 w' (_ :: .box p 44 #[.pointer (some ⟨g, 0, none⟩), .pointer (some ⟨m, 0, none⟩), .int .i64 (used24 s.mode), .int .i64 s.mode, kv] :: _)
   rw [H2.out]
   exact S2.out
 ·refine wp_region_stage (w0 := w0) (os := os) (by kernel_rfl) (by kernel_rfl) (by kernel_rfl) [(0, 9, [9], fun vs => .grid (blkOf (vs 9)) 83 ↑s.cols s.O), (0, 10, [10], fun vs => .grid (blkOf (vs 10)) 83 ↑s.cols s.O)] [[], [], [], [], [1], [], [], [], [1], [0, 3], [0]] [.none, .box p 44 #[.pointer (some ⟨g, 0, none⟩), .pointer (some ⟨m, 0, none⟩), .int .i64 1, .int .i64 s.mode, kv], .grid g 83 ↑s.cols s.M, .grid m 83 ↑s.cols s.O, ko] (fun opn u => match opn with | 0 => u = .pointer (some ⟨p, 0, none⟩) | 1 => u = .pointer (some ⟨p, 0, none⟩) | 2 => u = .pointer (some ⟨p, 0, none⟩) | 3 => u = .pointer (some ⟨p, 2, none⟩) | 4 => u = .int .i64 1 | 5 => u = .pointer (some ⟨p, 0, none⟩) | 6 => u = .pointer (some ⟨p, 0, none⟩) | 7 => u = .pointer (some ⟨p, 1, none⟩) | 8 => u = .pointer (some ⟨m, 0, none⟩) | 9 => ∃ x, u = .pointer (some ⟨x, 0, none⟩) | 10 => ∃ x, u = .pointer (some ⟨x, 0, none⟩) | _ => True) (fun vs => [.grid (blkOf (vs 10)) 83 ↑s.cols s.O, .box p 44 #[.pointer (some ⟨g, 0, none⟩), .pointer (some ⟨m, 0, none⟩), .int .i64 1, .int .i64 s.mode, kv], .grid g 83 ↑s.cols s.M, .grid m 83 ↑s.cols s.O, ko]) (by kernel_rfl) (fun vs => by rfl) S1.out.pad ?_ ?_
  ·apply sc
   ·intro a w' vs σ hS hl hs hk
    have f0 : a.tmps[0]?.getD undef = .pointer (some ⟨p, 0, none⟩) := sof hk
    exact rp (pt p 0) (by simp [execOp, Act.eval, f0, go_sem]) hl hs hS
   apply sc
   ·intro a w' vs σ hS hl hs hk
    have f0 : a.tmps[0]?.getD undef = .pointer (some ⟨p, 0, none⟩) := sof hk
    exact rp (pt p 0) (by simp [execOp, Act.eval, f0, go_sem]) hl hs hS
   apply sc
   ·intro a w' vs σ hS hl hs hk
    have f6 : a.tmps[6]?.getD undef = .pointer (some ⟨p, 0, none⟩) := sf hk 1
    exact rp (pt p 0) (by simp [execOp, Act.eval, f6, go_sem]) hl hs hS
   apply sc
   ·intro a w' vs σ hS hl hs hk
    have f7 : a.tmps[7]?.getD undef = .pointer (some ⟨p, 0, none⟩) := sf hk 2
    exact rp (pt p 2) (by simp [execOp, Act.eval, f7, go_sem]) hl hs hS
   apply sc
   ·intro a w' vs σ hS hl hs hk
    have f8 : a.tmps[8]?.getD undef = .pointer (some ⟨p, 2, none⟩) := sf hk 3
    have hx := (hS.box (sg (hs 1 (by decide)))).cell
    exact rp (.int .i64 1) (by simp [execOp, Act.eval, f8, go_sem, hx]) hl hs hS
   apply sc
   ·intro a w' vs σ hS hl hs hk
    have f5 : a.tmps[5]?.getD undef = .pointer (some ⟨p, 0, none⟩) := sf hk 0
    exact rp (pt p 0) (by simp [execOp, Act.eval, f5, go_sem]) hl hs hS
   apply sc
   ·intro a w' vs σ hS hl hs hk
    have f10 : a.tmps[10]?.getD undef = .pointer (some ⟨p, 0, none⟩) := sf hk 5
    exact rp (pt p 0) (by simp [execOp, Act.eval, f10, go_sem]) hl hs hS
   apply sc
   ·intro a w' vs σ hS hl hs hk
    have f11 : a.tmps[11]?.getD undef = .pointer (some ⟨p, 0, none⟩) := sf hk 6
    have f9 : a.tmps[9]?.getD undef = .int .i64 1 := sf hk 4
    exact rp (pt p 1) (by simp [execOp, Act.eval, f11, f9, go_sem]) hl hs hS
   apply sc
   ·intro a w' vs σ hS hl hs hk
    have f12 : a.tmps[12]?.getD undef = .pointer (some ⟨p, 1, none⟩) := sf hk 7
    have hx := (hS.box (sg (hs 1 (by decide)))).cell
    exact rp (pt m 0) (by simp [execOp, Act.eval, f12, go_sem, hx]) hl hs hS
   apply sc
   ·intro a w' vs σ hS hl hs hk
    have e13 : a.tmps.getD 13 undef = .pointer (some ⟨m, 0, none⟩) := svv hk 8
    have h0 : σ[0]? = some .none := hs 0 (by decide)
    have h1 : σ[3]? = some (.grid m 83 ↑s.cols s.O) := hs 3 (by decide)
    exact ro_call (f := 39) (wanted_none rfl) rfl (by simp only [List.map_toArray, List.map_cons, List.map_nil, Act.eval, e13] <;> rfl) (fun _ _ => by kernel_rfl) ((CopyG hS (sg h1) HG.out.c0 HG.out.cm HG.out.O.1 (by rw [HG.out.O.2.1]; have := HG.out.rm; omega)).mono fun e w2 ⟨x, h1, h2⟩ => ⟨_, h1, sp_set 0 (.grid x 83 ↑s.cols s.O) (by kernel_rfl) (by simp) (by decide) hl hs (by rfl) (h2.place (sg h0)) ⟨x, rfl⟩, trivial⟩)
   apply sc
   ·intro a w' vs σ hS hl hs hk
    have e14 : a.tmps.getD 14 undef = vs 9 := sk_val hk 9 (by kernel_rfl) rfl rfl
    have p14 : (fun u : Value => ∃ x, u = .pointer (some ⟨x, 0, none⟩)) (vs 9) := (hk.1 9 (by kernel_rfl)).1
    obtain ⟨x, q9⟩ := p14
    have e9 := e14.trans q9
    have f9 := gd e9
    have h0 : σ[0]? = some (.grid (blkOf (vs 9)) 83 ↑s.cols s.O) := hs 0 (by decide)
    rw [q9, show blkOf (.pointer (some ⟨x, 0, none⟩)) = x from rfl] at h0
    have hSS : Objs w0 w' ((σ ++ os).set 0 (.grid x 83 ↑s.cols s.O)) := by rw [set_self (sg h0)]; exact hS
    exact rs_run (v' := .pointer (some ⟨x, 0, none⟩)) (w' := w') (wanted_none rfl) (by simp [execOp, Act.eval, e9, f9, go_sem]) (sp_set 0 (.grid x 83 ↑s.cols s.O) (by kernel_rfl) (by simp) (by decide) hl hs (by rfl) hSS ⟨x, rfl⟩)
   exact SSteps.nil
  ·intro vs w' hS hv
   have q0 : vs 0 = _ := hv 0 (by decide)
   have q1 : vs 1 = _ := hv 1 (by decide)
   have q2 : vs 2 = _ := hv 2 (by decide)
   have q3 : vs 3 = _ := hv 3 (by decide)
   have q4 : vs 4 = _ := hv 4 (by decide)
   have q5 : vs 5 = _ := hv 5 (by decide)
   have q6 : vs 6 = _ := hv 6 (by decide)
   have q7 : vs 7 = _ := hv 7 (by decide)
   have q8 : vs 8 = _ := hv 8 (by decide)
   obtain ⟨x, q10⟩ := (show ∃ x, vs 10 = .pointer (some ⟨x, 0, none⟩) from hv 10 (by decide))
   rw [q10, show blkOf (.pointer (some ⟨x, 0, none⟩)) = x from rfl] at hS
   have S2 := Lib.hid hS
   simp only [putL, Act.put, Nat.zero_add, Nat.reduceAdd, List.setIfInBounds_toArray, List.set_cons_succ, List.set_cons_zero, q0, q1, q2, q3, q4, q5, q6, q7, q8]
   clear hS hv q0 q1 q2 q3 q4 q5 q6 q7 q8
   simp only [q10]
   go_wp2_with fail
   go_ret
   rw [H3.out]
   refine ⟨x, rfl, Objs.closePair1 (g := g) (m := m) (kv := kv) (ko := ko) ?_ HK.out⟩
   show Objs w0 w' (_ :: .box p 44 #[.pointer (some ⟨g, 0, none⟩), .pointer (some ⟨m, 0, none⟩), .int .i64 (used24 s.mode), .int .i64 s.mode, kv] :: _)
   rw [H2.out]
   exact S2.out
theorem Main_nil (hS : Objs w0 w os) : Calls Tryd.prog 14 #[.pointer none] w fun e w' => e = .returned (.pointer none) ∧ Objs w0 w' os := by
 have S := Lib.hid hS
 clear hS
 go_enter Tryd.func14, Tryd.ntmps14
 go_wp2_with fail
 refine (pnone_nil _).mono ?_
 rintro e w1 ⟨rfl, rfl⟩
 go_wp2_with fail
 go_ret
 exact ⟨rfl, S.out⟩
theorem Main_zero {k : Nat} {a b c d : Value} (hS : Objs w0 w os) (hk : os[k]? = some (.box p 44 #[.pointer none, a, b, c, d])) : Calls Tryd.prog 14 #[.pointer (some ⟨p, 0, none⟩)] w fun e w' => e = .returned (.pointer none) ∧ Objs w0 w' os := by
 have S := Lib.hid hS
 have HK := Lib.hid hk
 clear hS hk
 go_enter Tryd.func14, Tryd.ntmps14
 go_wp2_with fail
 refine (pnone_zero S.out HK.out).mono ?_
 rintro e w1 ⟨rfl, hS⟩
 have S1 := Lib.hid hS
 clear hS
 go_wp2_with fail
 go_ret
 exact ⟨rfl, S1.out⟩
theorem Grid_nil (hS : Objs w0 w os) : Calls Tryd.prog 13 #[.pointer none] w fun e w' => e = .returned (.pointer none) ∧ Objs w0 w' os := by
 have S := Lib.hid hS
 clear hS
 go_enter Tryd.func13, Tryd.ntmps13
 go_wp2_with fail
 refine (pnone_nil _).mono ?_
 rintro e w1 ⟨rfl, rfl⟩
 go_wp2_with fail
 go_ret
 exact ⟨rfl, S.out⟩
theorem Grid_zero {k : Nat} {a b c d : Value} (hS : Objs w0 w os) (hk : os[k]? = some (.box p 44 #[.pointer none, a, b, c, d])) : Calls Tryd.prog 13 #[.pointer (some ⟨p, 0, none⟩)] w fun e w' => e = .returned (.pointer none) ∧ Objs w0 w' os := by
 have S := Lib.hid hS
 have HK := Lib.hid hk
 clear hS hk
 go_enter Tryd.func13, Tryd.ntmps13
 go_wp2_with fail
 refine (pnone_zero S.out HK.out).mono ?_
 rintro e w1 ⟨rfl, hS⟩
 have S1 := Lib.hid hS
 clear hS
 go_wp2_with fail
 go_ret
 exact ⟨rfl, S1.out⟩
set_option maxRecDepth 100000 in
set_option maxHeartbeats 4000000 in
theorem pairNew_yes (rows cols : Nat) (h1 : 1 ≤ rows) (h2 : rows ≤ 1000) (h3 : 1 ≤ cols) (h4 : cols ≤ 1000) (hS : Objs w0 w os) :
  Calls Tryd.prog 19 #[.int .i64 rows, .int .i64 cols] w fun e w' => ∃ p, e = .returned (.tuple #[.pointer (some ⟨p, 0, none⟩), .int .i64 0]) ∧ Objs w0 w' (pairO p (newP rows cols) :: os) := by
 have S := Lib.hid hS
 clear hS
 go_enter Tryd.func19, Tryd.ntmps19
 go_upto_region 2 with (fail)
 refine at_objsC (S.out.alloc1 (c1 := #[.pointer none, .pointer none, .int .i64 0, .int .i64 0, .pointer none]) (t1 := 44)) (fun W hW => ?_)
 generalize w.heap.size = p at hW ⊢
 have S1 := Lib.hid hW
 clear hW S
 go_wp2_with fail
 go_loopw [12] (fun x wr => (x = .int .i64 0 ∧ Objs w0 wr (.box p 44 #[.pointer none, .pointer none, .int .i64 0, .int .i64 0, .pointer none] :: os)) ∨ (x = .int .i64 1 ∧ ∃ g, Objs w0 wr (.box p 44 #[.pointer (some ⟨g, 0, none⟩), .pointer none, .int .i64 0, .int .i64 0, .pointer none] :: .grid g 83 ↑cols (newL rows cols) :: os)) ∨ (x = .int .i64 2 ∧ ∃ g m, Objs w0 wr (.box p 44 #[.pointer (some ⟨g, 0, none⟩), .pointer (some ⟨m, 0, none⟩), .int .i64 0, .int .i64 0, .pointer none] :: .grid g 83 ↑cols (newL rows cols) :: .grid m 83 ↑cols (newL rows cols) :: os))) (fun x _ => 2 - (intOf x).toNat)
 case atStart => exact .inl ⟨rfl, S1.out⟩
 case round =>
  clear S1
  rcases hrel with ⟨rfl, hS⟩ | ⟨rfl, g, hS⟩ | ⟨rfl, g, m, hS⟩
  ·have S2 := Lib.hid hS
   clear hS
   go_wp2_with fail
   refine (gridNew_yes rows cols h1 h2 h3 h4 _ _ _ S2.out).mono ?_
   rintro e w2 ⟨g, rfl, hS⟩
   have S3 := Lib.hid hS
   clear hS S2
   obtain ⟨hx, hf, hz⟩ := (S3.out.box (k := 1) rfl).facts
   go_wp2_with fail
   go_roundw
   case rel => exact .inr (.inl ⟨by go_num, g, (S3.out.setBox 1 (i := 0) (u := .pointer (some ⟨g, 0, none⟩)) rfl).swap⟩)
   case measure => simp [intOf]
  ·have S2 := Lib.hid hS
   clear hS
   go_wp2_with fail
   refine (gridNew_yes rows cols h1 h2 h3 h4 _ _ _ S2.out).mono ?_
   rintro e w2 ⟨m, rfl, hS⟩
   have S3 := Lib.hid hS
   clear hS S2
   obtain ⟨hx, hf, hz⟩ := (S3.out.box (k := 1) rfl).facts
   go_wp2_with fail
   go_roundw
   case rel => exact .inr (.inr ⟨by go_num, g, m, by have hW := S3.out.setBox 1 (i := 1) (u := .pointer (some ⟨m, 0, none⟩)) rfl; exact (Objs.pick (σ := [_, _, _]) (os := os) hW [some 1, some 2, some 0] (by decide) rfl)⟩)
   case measure => simp [intOf]
  ·have S2 := Lib.hid hS
   clear hS
   go_wp2_with fail
   go_ret2
   refine ⟨p, rfl, Objs.closePair (g := g) (m := m) (kv := .pointer none) (ko := .none) ?_ rfl⟩
   have hW := S2.out.pad
   exact (Objs.pick (σ := [_, _, _, _]) (os := os) hW [some 1, some 2, some 3, some 0] (by decide) rfl)
set_option maxHeartbeats 4000000 in
theorem pairNew_no (rows cols : Int) (h : rows < 1 ∨ 1000 < rows ∨ cols < 1 ∨ 1000 < cols) (hS : Objs w0 w os) :
  Calls Tryd.prog 19 #[.int .i64 rows, .int .i64 cols] w fun e w' => e = .returned (.tuple #[.pointer none, .int .i64 2]) ∧ Objs w0 w' os := by
 have S := Lib.hid hS
 have H := Lib.hid h
 clear hS h
 go_enter Tryd.func19, Tryd.ntmps19
 go_upto_region 2 with (fail)
 refine at_objsC (S.out.alloc1 (c1 := #[.pointer none, .pointer none, .int .i64 0, .int .i64 0, .pointer none]) (t1 := 44)) (fun W hW => ?_)
 generalize w.heap.size = p at hW ⊢
 have S1 := Lib.hid hW
 clear hW S
 go_wp2_with fail
 go_loopw [12] (fun x wr => x = .int .i64 0 ∧ Objs w0 wr (.box p 44 #[.pointer none, .pointer none, .int .i64 0, .int .i64 0, .pointer none] :: os)) (fun x _ => 2 - (intOf x).toNat)
 case atStart => exact ⟨rfl, S1.out⟩
 case round =>
  clear S1
  obtain ⟨rfl, hS⟩ := hrel
  have S2 := Lib.hid hS
  clear hS
  go_wp2_with fail
  refine (gridNew_no rows cols H.out _).mono ?_
  rintro e w2 ⟨rfl, rfl⟩
  go_wp2_with fail
  go_ret2
  exact ⟨rfl, S2.out.tail⟩
set_option maxHeartbeats 4000000 in
theorem refNew_yes (rows cols : Nat) (h2 : rows ≤ 1000) (h4 : cols ≤ 1000) (hS : Objs w0 w os) :
  Calls Tryd.prog 31 #[.int .i64 rows, .int .i64 cols] w fun e w' => ∃ p, e = .returned (.pointer (some ⟨p, 0, none⟩)) ∧ Objs w0 w' (refO p (newP rows cols) :: os) := by
 have S := Lib.hid hS
 clear hS
 go_enter Tryd.func31, Tryd.ntmps31
 go_wp2_with fail
 refine (r14New_any rows cols h2 h4 _ _ _ S.out).mono ?_
 rintro e w1 ⟨m, rfl, hS⟩
 have S1 := Lib.hid hS
 clear hS
 go_wp2_with fail
 refine (r14New_any rows cols h2 h4 _ _ _ S1.out).mono ?_
 rintro e w2 ⟨o, rfl, hS⟩
 have S2 := Lib.hid hS
 clear hS
 go_wp2_with fail
 refine at_objsP (S2.out.alloc1 (c1 := rpv m o 0 saved0 false) (t1 := 103)) (fun W hW => ?_)
 go_ret
 exact ⟨_, rfl, Objs.closeRef (m := m) (o := o) (Objs.pick (σ := [_, _, _]) (os := os) hW [some 0, some 2, some 1] (by decide) rfl)⟩
end
end Go.Proofs.YtdndoikgnohkkaaDoor

namespace Go.Proofs.YtdndoikgnohkkaaDoor
open Go.RowKit

def putR24 (row col : Int) (x : Cell) (cols : Nat) (L : List Ln) : List Ln := if putE row col x cols L.length = 0 then rowMod row.toNat (putC col.toNat x) L else L
section
variable {w0 w : World} {os : List Ob} {p : Nat} {s : Pr}
theorem front_bs {P : Program} {f : FuncId} {args : Array Value} {o o' : Ob} {r : Value} {bs : List Ob} (hS : Objs w0 w (bs ++ o :: os)) (hc : ∀ os1, Objs w0 w (o :: os1) → Calls P f args w fun e w' => e = .returned r ∧ Objs w0 w' (o' :: os1)) :
  Calls P f args w fun e w' => e = .returned r ∧ Objs w0 w' (bs ++ o' :: os) := by
 have h := front_call hS (k := bs.length) (by simp) hc
 simpa using h
theorem mid_get (o b : Ob) (zs os : List Ob) : (o :: (zs ++ b :: os))[zs.length + 1]? = some b := by simp
theorem put24_any {row col : Int} {p cols : Nat} {L : List Ln} (x : Cell) (hT : Tabs w0) (hS : Objs w0 w (.grid p 83 cols L :: os)) (hc : 0 < cols) (hcm : cols ≤ 1000) (hR : Rect cols L) :
  Calls Tryd.prog 44 #[.pointer (some ⟨p, 0, none⟩), .int .i64 row, .int .i64 col, .agg (cv x)] w fun e w' => e = .returned (.int .i64 (putE row col x cols L.length)) ∧ Objs w0 w' (.grid p 83 cols (putR24 row col x cols L) :: os) := by
 unfold putR24
 by_cases h : putE row col x cols L.length = 0
 ·rw [if_pos h, h]
  obtain ⟨i, j, rfl, rfl, hi, hj, h1, h2, h3⟩ := putE_yes h
  exact PutG x hT hS (k := 0) rfl hcm hR hi h1 h2 h3
 ·rw [if_neg h]
  exact PutN x hT hS (k := 0) rfl hc hcm h
theorem putR24_k24 {row col : Int} {x : Cell} {cols rr : Nat} {L : List Ln} (h : K24 cols rr L) : K24 cols rr (putR24 row col x cols L) := by
 unfold putR24
 split
 ·rename_i he
  obtain ⟨i, j, rfl, rfl, hi, hj, h1, h2, h3⟩ := putE_yes he
  refine ⟨h.1.rowMod _ (fun cs hcs => by rw [putC_length]; exact hcs), by rw [rowMod_length]; exact h.2.1, ?_⟩
  have := act14N_all (a := ⟨0, i, j, 0, 0, x, none, 0, [], false, pen0⟩) h.1 h.2.2
  unfold act14N at this
  rw [if_pos rfl, if_pos he] at this
  exact this
 ·exact h
theorem Pr.good.setU {rr : Nat} {L : List Ln} (h : s.good rr) (hL : K24 s.cols rr L) : (s.setU L).good rr := by
 unfold Pr.setU
 split
 ·exact ⟨h.c0, h.cm, h.r0, h.rm, hL, h.O⟩
 ·exact ⟨h.c0, h.cm, h.r0, h.rm, h.M, hL⟩
set_option maxHeartbeats 1000000 in
theorem putsFn {row col : Int} {g b cols : Nat} {L : List Ln} {zs : List Ob} (x : Cell) (hT : Tabs w0) (hS : Objs w0 w (.grid g 83 cols L :: (zs ++ .box b 63 (pw row col x) :: os))) (hc : 0 < cols) (hcm : cols ≤ 1000) (hR : Rect cols L) :
  Calls Tryd.prog 43 #[.pointer (some ⟨g, 0, none⟩), .pointer (some ⟨b, 0, none⟩)] w fun e w' => e = .returned (.int .i64 (putE row col x cols L.length)) ∧ Objs w0 w' (.grid g 83 cols (putR24 row col x cols L) :: (zs ++ .box b 63 (pw row col x) :: os)) := by
 have S := Lib.hid hS
 have HT := Lib.hid hT
 have HR := Lib.hid hR
 clear hS hT hR
 obtain ⟨hx, hf, hz, hr, hc2⟩ := (S.out.box (mid_get _ _ zs os)).put24
 go_enter Tryd.func43, Tryd.ntmps43
 go_wp2_with fail
 refine (put24_any x HT.out S.out hc hcm HR.out).mono ?_
 rintro e w1 ⟨rfl, hS⟩
 have S1 := Lib.hid hS
 clear hS
 go_wp2_with fail
 go_ret
 exact ⟨rfl, S1.out⟩
set_option maxHeartbeats 1000000 in
theorem puts_front {row col : Int} {rr : Nat} (x : Cell) (hT : Tabs w0) (hS : Objs w0 w (pairO p s :: os)) (hg : s.good rr) :
  Calls Tryd.prog 22 #[.pointer (some ⟨p, 0, none⟩), .agg (pw row col x)] w fun e w' => e = .returned (.int .i64 (putE row col x s.cols rr)) ∧ Objs w0 w' (pairO p (s.setU (putR24 row col x s.cols s.U)) :: os) := by
 have S := Lib.hid hS
 have HT := Lib.hid hT
 have HG := Lib.hid hg
 clear hS hT hg
 go_enter Tryd.func22, Tryd.ntmps22
 go_upto_region 1 with (fail)
 refine at_objsC (S.out.alloc1 (c1 := pw row col x) (t1 := 63)) (fun W hW => ?_)
 generalize w.heap.size = b at hW ⊢
 have S1 := Lib.hid hW
 clear hW S
 go_wp2_with fail
 refine (Do_front (f := 43) (first := #[]) (cap := #[.pointer (some ⟨b, 0, none⟩)]) (re := putE row col x s.cols rr) (L2 := putR24 row col x s.cols s.U) (os := .box b 63 (pw row col x) :: os) (fun _ _ => by kernel_rfl) S1.out.swap (fun W g zs h => ?_)).mono ?_
 ·have := putsFn x HT.out h HG.out.c0 HG.out.cm HG.out.U.1
  rw [HG.out.U.2.1] at this
  exact this
 rintro e w1 ⟨rfl, hS⟩
 have S2 := Lib.hid hS
 clear hS
 go_wp2_with fail
 go_ret
 exact ⟨rfl, S2.out.swap.tail⟩
set_option maxHeartbeats 1000000 in
theorem leaves_true {n er : Int} {gp : Value} {q : Pen} {a : Saved} {b1 : Bool} {os2 : List Ob} (hS : Objs w0 w os)
  (hcon : ∀ (bs : List Ob) (W : World), Objs w0 W (bs ++ os) → Calls Tryd.prog 23 #[gp, .int .i64 n, .agg (pv q)] W fun e w' => e = .returned (.tuple #[.agg (sv a), .bool b1, .int .i64 er]) ∧ Objs w0 w' (bs ++ os2)) :
  Calls Tryd.prog 10 #[gp, .int .i64 n, .agg (pv q), .agg (sv a), .bool b1, .int .i64 er] w fun e w' => e = .returned (.bool true) ∧ Objs w0 w' os2 := by
 have S0 := Lib.hid hS
 have HC := Lib.hid hcon
 clear hS hcon
 go_enter Tryd.func10, Tryd.ntmps10
 go_upto_region 1 with (fail)
 refine at_objsC (S0.out.alloc2 (c1 := pv q) (t1 := 29) (c2 := sv a) (t2 := 35)) (fun W hW => ?_)
 generalize w.heap.size + 1 = b9 at hW ⊢
 generalize w.heap.size = b8 at hW ⊢
 have S1 := Lib.hid hW
 clear hW S0
 obtain ⟨hx8, hf8, hz8⟩ := (S1.out.box (k := 1) rfl).facts
 have hp8 := (S1.out.box (k := 1) rfl).penAt
 go_wp2_with fail
 refine (HC.out [_, _] _ S1.out).mono ?_
 rintro e w1 ⟨rfl, hS⟩
 have S2 := Lib.hid (show Objs w0 w1 (.box b9 35 (sv a) :: .box b8 29 (pv q) :: os2) from hS)
 clear hS S1 hx8 hf8 hz8 hp8
 go_upto_region 2 with (fail)
 refine at_objsC (S2.out.alloc1 (c1 := sv a) (t1 := 35)) (fun W2 hW => ?_)
 generalize w1.heap.size = b13 at hW ⊢
 have S3 := Lib.hid hW
 clear hW S2
 obtain ⟨hx13, hf13, hz13, hr13, hp13⟩ := (S3.out.box (k := 0) rfl).saved
 obtain ⟨hx9, hf9, hz9, hr9, hp9⟩ := (S3.out.box (k := 1) rfl).saved
 go_wp2_with fail
 go_ret
 exact ⟨rfl, S3.out.tail.tail.tail⟩
set_option maxHeartbeats 1000000 in
theorem shows_true {i j cols k g : Nat} {L : List Ln} {l : Ln} {x : Cell} (hS : Objs w0 w os) (hk : os[k]? = some (.grid g 83 cols L)) (hc : 0 < cols) (hj : j < cols) (hl : L[i]? = some l) (hx : l.1[j]? = some x) :
  Calls Tryd.prog 42 #[.pointer (some ⟨g, 0, none⟩), .int .i64 i, .int .i64 j, .agg (cv x)] w fun e w' => e = .returned (.bool true) ∧ Objs w0 w' os := by
 have S0 := Lib.hid hS
 have HK := Lib.hid hk
 have HL := Lib.hid hl
 have HX := Lib.hid hx
 clear hS hk hl hx
 go_enter Tryd.func42, Tryd.ntmps42
 go_upto_region 1 with (fail)
 refine at_objsC (S0.out.alloc1 (c1 := cv x) (t1 := 61)) (fun W hW => ?_)
 generalize w.heap.size = b7 at hW ⊢
 have S1 := Lib.hid hW
 clear hW S0
 go_wp2_with fail
 refine (Cell_yes S1.out (k := k + 1) HK.out hc hj HL.out HX.out).mono ?_
 rintro e w1 ⟨rfl, hS⟩
 have S2 := Lib.hid hS
 clear hS S1
 go_upto_region 2 with (fail)
 refine at_objsC (S2.out.alloc1 (c1 := cv x) (t1 := 61)) (fun W2 hW => ?_)
 generalize w1.heap.size = b9 at hW ⊢
 have S3 := Lib.hid hW
 clear hW S2
 obtain ⟨hx9, hf9, hz9, hc9, hp9⟩ := (S3.out.box (k := 0) rfl).box
 obtain ⟨hx7, hf7, hz7, hc7, hp7⟩ := (S3.out.box (k := 1) rfl).box
 go_wp2_with fail
 go_ret
 exact ⟨rfl, S3.out.tail.tail⟩
end
end Go.Proofs.YtdndoikgnohkkaaDoor
