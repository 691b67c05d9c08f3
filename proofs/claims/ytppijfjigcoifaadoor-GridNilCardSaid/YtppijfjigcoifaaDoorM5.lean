/-
  Part 5 of the texts on which the proofs of this seat stand: each part says ahead of it what it shows.
-/
import Derived.Test.YtppijfjigcoifaaDoorM4
import Derived.ProofKit
import Derived.OpenShut
import Derived.Deep.Slices
import Derived.Lib.LaidTab
import Derived.ChangeSame
import Derived.Carry
import Derived.Test.YtppijfjigcoifaaDoorCards
import Derived.Test.YtppijfjigcoifaaDoorTie
import Derived.WalkKit
import Derived.Deep.DeepHandedRow

/-
  fit: a line of so many cells that is the caller's own.
-/
set_option linter.unusedSimpArgs false
set_option linter.unusedVariables false
namespace Go.Proofs.YtppijfjigcoifaaDoor
open Go.RowKit

section
variable {w0 w : World} {os : List Ob}
set_option maxHeartbeats 1000000 in
theorem fit_yes (A : Option Addr) (c : Nat) (cs : List Cell) (s : Bool) (n : Nat) (hn : n ≤ 1000) (hT : Tabs w0) (hS : Objs w0 w os) (ha : RdC w A c cs) (hl : cs.length ≤ 100000) (hv : lineOk cs = true) :
    Calls Tryd.prog 61 #[.agg #[.slice A cs.length c, .bool s], .int .i64 n] w fun e w' => ∃ v, e = .returned (.tuple #[.agg #[v, .bool s], .int .i64 0]) ∧ Objs w0 w' (.cells v (fitTo n cs) :: os) := by
  have S := Lib.hid hS
  have HT := Lib.hid hT
  have HA := Lib.hid ha
  have HV := Lib.hid hv
  clear hS hT ha hv
  go_enter Tryd.func61, Tryd.ntmps61
  go_wp2_with fail
  refine (lvalid_is HV.out _ _ _ _ (S.out.alloc2.tabs HT.out) ((HA.out.alloc _).alloc _) (by omega)).mono ?_
  rintro e w1 ⟨rfl, hb⟩
  have S1 := Lib.hid (S.out.alloc2.bel hb)
  have HA1 := Lib.hid (((HA.out.alloc _).alloc _).bel hb)
  obtain ⟨hx2, hf2, hz2⟩ := (S1.out.box (k := 1) rfl).facts
  obtain ⟨hx4, hf4, hz4⟩ := (S1.out.box (k := 0) rfl).facts
  clear hb
  go_wp2_with fail
  refine (lineCopy_any A c cs s _ HA1.out (by omega)).mono ?_
  rintro e w2 ⟨v2, rfl, ho, hb⟩
  have S2 := Lib.hid (S1.out.newCells hb ho)
  obtain ⟨A2, c2, rfl, hr2⟩ := ho.form
  have HR2 := Lib.hid hr2
  clear ho hb hr2 hx2 hf2 hz2 hx4 hf4 hz4
  go_wp2_with fail
  refine (lineFit_yes A2 c2 cs s n hn _ (S2.out.tabs HT.out) HR2.out hl HV.out).mono ?_
  rintro e w3 ⟨v3, rfl, ho3, hb3⟩
  have S3 := Lib.hid (S2.out.newCells hb3 ho3)
  obtain ⟨A3, c3, rfl, -⟩ := ho3.form
  obtain ⟨hx4, hf4, hz4⟩ := (S3.out.box (k := 2) rfl).facts
  clear ho3 hb3
  go_wp2_with fail
  have S4 := S3.out.setLine 2 (.slice A3 (fitTo n cs).length c3) s rfl
  refine bodyPost_ret (results_ct Tryd.results61 _ _ (w.heap.size + 1) _ _ rfl (S4.box (k := 2) rfl) Tryd.underlying39 rfl line_size) rfl ?_
  exact ⟨_, rfl, ((S4.del 1).del 1).del 1⟩
set_option maxHeartbeats 1000000 in
theorem fit_no (A : Option Addr) (c : Nat) (cs : List Cell) (s : Bool) (n : Int) (hT : Tabs w0) (hS : Objs w0 w os) (ha : RdC w A c cs) (hl : cs.length ≤ 100000) (hv : lineOk cs = false) :
    Calls Tryd.prog 61 #[.agg #[.slice A cs.length c, .bool s], .int .i64 n] w fun e w' => e = .returned (.tuple #[.agg #[.slice none 0 0, .bool false], .int .i64 2]) ∧ Objs w0 w' os := by
  have S := Lib.hid hS
  have HT := Lib.hid hT
  have HA := Lib.hid ha
  have HV := Lib.hid hv
  clear hS hT ha hv
  go_enter Tryd.func61, Tryd.ntmps61
  go_wp2_with fail
  refine (lvalid_is HV.out _ _ _ _ (S.out.alloc2.tabs HT.out) ((HA.out.alloc _).alloc _) (by omega)).mono ?_
  rintro e w1 ⟨rfl, hb⟩
  have S1 := Lib.hid (S.out.alloc2.bel hb)
  obtain ⟨hx4, hf4, hz4⟩ := (S1.out.box (k := 0) rfl).facts
  clear hb
  go_wp2_with fail
  have S4 := S1.out.setLine 0 (.slice none 0 0) false rfl
  refine bodyPost_ret (results_ct Tryd.results61 _ _ (w.heap.size + 1) _ _ rfl (S4.box (k := 0) rfl) Tryd.underlying39 rfl line_size) rfl ?_
  exact ⟨rfl, S4.tail.tail⟩
end
end Go.Proofs.YtppijfjigcoifaaDoor

/-
  A call of the chapter on grids, and what it does to the rows.
-/
set_option linter.unusedSimpArgs false
set_option linter.unusedVariables false
namespace Go.Proofs.YtppijfjigcoifaaDoor
open Go.RowKit

@[go_sem ↓] theorem load_ldR34 (a : Addr) : loadCellsFrom a 0 34 #[] = ldR a 34 := rfl
structure Act14 where
  what : Int
  row : Int
  a : Int
  b : Int
  n : Int
  x : Cell
  A : Option Addr
  c : Nat
  cs : List Cell
  soft : Bool
  q : Pen
def av14 (a : Act14) : Array Value := #[.int .i64 a.what, .int .i64 a.row, .int .i64 a.a, .int .i64 a.b, .int .i64 a.n, .int .i32 a.x.rune, .int .i32 a.x.m0, .int .i32 a.x.m1, .int .i32 a.x.m2, .int .i64 a.x.width, .int .i64 a.x.pen.fk, .int .u8 a.x.pen.fi, .int .u8 a.x.pen.fr, .int .u8 a.x.pen.fg, .int .u8 a.x.pen.fb, .int .i64 a.x.pen.bk, .int .u8 a.x.pen.bi, .int .u8 a.x.pen.br, .int .u8 a.x.pen.bg, .int .u8 a.x.pen.bb, .int .u8 a.x.pen.fl, .slice a.A a.cs.length a.c, .bool a.soft, .int .i64 a.q.fk, .int .u8 a.q.fi, .int .u8 a.q.fr, .int .u8 a.q.fg, .int .u8 a.q.fb, .int .i64 a.q.bk, .int .u8 a.q.bi, .int .u8 a.q.br, .int .u8 a.q.bg, .int .u8 a.q.bb, .int .u8 a.q.fl]
@[go_sem] theorem av14_size (a : Act14) : (av14 a).size = 34 := by simp [av14]
@[simp high, go_sem high] theorem av14_get0 (a : Act14) : (av14 a)[0]? = some (.int .i64 a.what) := by simp [av14]
@[simp high, go_sem high] theorem av14_get1 (a : Act14) : (av14 a)[1]? = some (.int .i64 a.row) := by simp [av14]
@[simp high, go_sem high] theorem av14_get2 (a : Act14) : (av14 a)[2]? = some (.int .i64 a.a) := by simp [av14]
@[simp high, go_sem high] theorem av14_get3 (a : Act14) : (av14 a)[3]? = some (.int .i64 a.b) := by simp [av14]
@[simp high, go_sem high] theorem av14_get4 (a : Act14) : (av14 a)[4]? = some (.int .i64 a.n) := by simp [av14]
@[simp high, go_sem high] theorem av14_get9 (a : Act14) : (av14 a)[9]? = some (.int .i64 a.x.width) := by simp [av14]
@[simp high, go_sem high] theorem av14_get21 (a : Act14) : (av14 a)[21]? = some (.slice a.A a.cs.length a.c) := by simp [av14]
@[simp high, go_sem high] theorem av14_get22 (a : Act14) : (av14 a)[22]? = some (.bool a.soft) := by simp [av14]
theorem av14_pen {w : World} {b o : Nat} {a : Act14} (h : w.rangeAt b o (av14 a).toList) : penAt w b (o + 23) = some a.q := penAt_of fun j v hv => by
  have := h (23 + j) v (by rw [← hv]; show ((av14 a).toList)[23 + j]? = _; rw [← List.getElem?_drop]; rfl)
  rw [show o + 23 + j = o + (23 + j) by omega]; exact this
theorem av14_cell {w : World} {b o : Nat} {a : Act14} (h : w.rangeAt b o (av14 a).toList) : cellAt w b (o + 5) = some a.x := cellAt_of fun j v hv => by
  have hj : j < 16 := by have := (List.getElem?_eq_some_iff.1 hv).1; simpa [cv] using this
  have := h (5 + j) v (by rw [← hv, ← List.getElem?_drop]; rw [show ((av14 a).toList.drop 5)[j]? = (((av14 a).toList.drop 5).take 16)[j]? from by rw [List.getElem?_take, if_pos hj]]; rfl)
  rw [show o + 5 + j = o + (5 + j) by omega]; exact this
/-- What the walk asks of a box that holds a call. -/
theorem Blk.act14 {w : World} {g : Nat} {t : TypeId} {a : Act14} (h : Blk w g t (av14 a)) : (∀ i, w.cell? ⟨g, i, none⟩ = (av14 a)[i]?) ∧ (∀ i, w.frozen? ⟨g, i, none⟩ = false) ∧ g < w.heap.size ∧ Proofs.YtppijfjigcoifaaDoor.recAt w g 0 34 = some (av14 a) ∧ Proofs.YtppijfjigcoifaaDoor.penAt w g 23 = some a.q ∧ Proofs.YtppijfjigcoifaaDoor.cellAt w g 5 = some a.x ∧ Proofs.YtppijfjigcoifaaDoor.penAt w g 10 = some a.x.pen :=
  ⟨h.cell, h.frozen, h.lt, h.recAt 34 (av14_size a), by have := av14_pen h.range; simpa using this, by have := av14_cell h.range; simpa using this, by have := penAt_of_cell (av14_cell h.range); simpa using this⟩

def here14 (row : Int) (R : Nat) : Bool := decide (0 ≤ row ∧ row < R)
def putE (row col : Int) (x : Cell) (cols R : Nat) : Int := if ¬ (here14 row R = true ∧ 0 ≤ col ∧ col < cols) then 3 else if ¬ (x.ok = true ∧ ¬ x.width = 0 ∧ col + x.width ≤ cols) then 2 else 0
theorem here14_nat {row : Int} {R : Nat} (h : here14 row R = true) : ∃ r : Nat, row = r ∧ r < R := by
  have := of_decide_eq_true h
  exact ⟨row.toNat, by omega, by omega⟩
end Go.Proofs.YtppijfjigcoifaaDoor

/-
  The width of a cell that is the caller's own is turned: in a slice of cells, and in a line of a slice of lines.
-/
set_option linter.unusedSimpArgs false
set_option linter.unusedVariables false
namespace Go.Proofs.YtppijfjigcoifaaDoor
open Go.RowKit

theorem flat_setW {cs : List Cell} {j : Nat} {x : Cell} (h : cs[j]? = some x) (m : Int) : (flat cs).set (j * 16 + 4) (.int .i64 m) = flat (cs.set j { x with width := m }) := by
  induction cs generalizing j with
  | nil => simp at h
  | cons c cs ih =>
    rw [flat_cons]
    cases j with
    | zero =>
      simp only [List.getElem?_cons_zero, Option.some.injEq] at h
      subst h
      rw [List.set_cons_zero, flat_cons, Nat.zero_mul, Nat.zero_add, List.set_append_left _ _ (by simp [cv])]
      rfl
    | succ j =>
      rw [List.set_cons_succ, flat_cons, ← ih (j := j) (by simpa using h), List.set_append_right _ _ (by simp [cv]; omega)]
      congr 1
      simp only [Array.length_toList, cv_size]
      rw [show (j + 1) * 16 + 4 - 16 = j * 16 + 4 by omega]
section
variable {w0 w : World} {os : List Ob} {cs : List Cell} {x : Cell} {v : Value} {L : List Ln} {l : Ln}
theorem Objs.setWidth {k j g n c : Nat} (hS : Objs w0 w os) (hk : os[k]? = some (.cells (.slice (some ⟨g, 0, none⟩) n c) cs)) (hj : cs[j]? = some x) (m : Int) :
    Objs w0 (w.setCell ⟨g, j * 16 + 4, none⟩ (.int .i64 m)) (os.set k (.cells (.slice (some ⟨g, 0, none⟩) n c) (cs.set j { x with width := m }))) := by
  have ho := hS.own hk
  obtain ⟨A', c', e, -⟩ := ho.form
  simp only [Value.slice.injEq] at e
  obtain ⟨-, hn, -⟩ := e
  subst hn
  have hs := World.ownsRow.stored ho (j * 16 + 4) (.int .i64 m)
  rw [flat_setW hj] at hs
  exact hS.cellsUpd hk (by unfold OwnC; rw [List.length_set]; exact hs.1) hs.2
/-- A cell of the caller's own cells, and where it lies. -/
theorem Objs.ownAt {k j : Nat} (hS : Objs w0 w os) (hk : os[k]? = some (.cells v cs)) (hj : cs[j]? = some x) : ∃ g c, v = .slice (some ⟨g, 0, none⟩) cs.length c ∧ g < w.heap.size ∧ w.cell? ⟨g, j * 16 + 4, none⟩ = some (.int .i64 x.width) ∧ (∀ i, w.frozen? ⟨g, i, none⟩ = false) := by
  have hl := (List.getElem?_eq_some_iff.1 hj).1
  obtain ⟨A, c, rfl, -, -, -, h⟩ := own_form (hS.own hk)
  obtain ⟨g, rfl, hz, hc, hf⟩ := h (by omega)
  refine ⟨g, c, rfl, hz, ?_, hf⟩
  rw [hc _ (by omega), flat_at cs j 4 x hj (by decide)]
  simp
end
end Go.Proofs.YtppijfjigcoifaaDoor

/-
  Small functions of the laws on grids: a letter's cell, whether a call failed, a blank cell, a row that spells something, few calls.
-/
set_option linter.unusedSimpArgs false
set_option linter.unusedVariables false
namespace Go.Proofs.YtppijfjigcoifaaDoor
open Go.RowKit

def letterC (r : Int) : Cell := ⟨r, 0, 0, 0, 1, pen0⟩
theorem l14letter_any (r : Int) (w : World) : Calls Tryd.prog 45 #[.int .i32 r] w fun e w' => e = .returned (.agg (cv (letterC r))) ∧ Below w.heap.size w w' := by
  go_enter Tryd.func45, Tryd.ntmps45
  go_wp2
  exact bodyPost_ret (results_cell_row Tryd.results45 _ _ w.heap.size 71 (cv (letterC r)) (0, 0) _ rfl (heap_alloc_new w _) Tryd.underlying71 rfl cell_size) rfl ⟨rfl, (Below.refl _ _).alloc (Nat.le_refl _) _⟩
theorem l14fails_any (gp : Option Addr) (e d : Int) (w : World) : Calls Tryd.prog 15 #[.pointer gp, .int .i64 e, .int .i64 d] w fun r w' => r = .returned (.bool (gp.isNone && (e == d))) ∧ w = w' := by
  cases gp with
  | none => go_enter Tryd.func15, Tryd.ntmps15; go_wp2_with fail; go_ret; exact ⟨rfl, rfl⟩
  | some a => go_enter Tryd.func15, Tryd.ntmps15; go_wp2_with fail; go_ret; exact ⟨rfl, rfl⟩
section
variable {w0 w : World} {os : List Ob} {k p cols : Nat} {L : List Ln}
theorem l14blank_yes {i j : Nat} {l : Ln} (hS : Objs w0 w os) (hk : os[k]? = some (.grid p 58 cols L)) (hc : 0 < cols) (hj : j < cols) (hl : L[i]? = some l) (hx : l.1[j]? = some (blank pen0)) :
    Calls Tryd.prog 55 #[.pointer (some ⟨p, 0, none⟩), .int .i64 i, .int .i64 j] w fun e w' => e = .returned (.bool true) ∧ Objs w0 w' os := by
  have S := Lib.hid hS
  have HK := Lib.hid hk
  have HL := Lib.hid hl
  have HX := Lib.hid hx
  clear hS hk hl hx
  go_enter Tryd.func55, Tryd.ntmps55
  go_wp2_with fail
  refine (Cell_yes S.out HK.out hc hj HL.out HX.out).mono ?_
  rintro e w1 ⟨rfl, hS⟩
  have S1 := Lib.hid (hS.alloc1 (c1 := cv (blank pen0)) (t1 := 71))
  clear hS
  go_wp2_with fail
  go_ret
  exact ⟨rfl, S1.out.tail⟩
set_option maxRecDepth 100000 in
set_option maxHeartbeats 2000000 in
theorem l14rowed_yes {y g cw : Nat} (rs : List Int) (s : Bool) (hS : Objs w0 w (.box g 21 (rs.map (Value.int .i32)).toArray :: os)) (hk : os[k]? = some (.grid p 58 cols L)) (hc : 0 < cols) (hl : L[y]? = some (rs.map letterC, s)) (hrs : rs.length ≤ 1000) :
    Calls Tryd.prog 56 #[.pointer (some ⟨p, 0, none⟩), .int .i64 y, .slice (some ⟨g, 0, none⟩) rs.length cw] w fun e w' => e = .returned (.bool true) ∧ Objs w0 w' (.box g 21 (rs.map (Value.int .i32)).toArray :: os) := by
  have S := Lib.hid hS
  have HK := Lib.hid hk
  have HL := Lib.hid hl
  have HSL := Lib.hid (show (rs.map letterC).length = rs.length by simp)
  clear hS hk hl
  go_enter Tryd.func56, Tryd.ntmps56
  go_wp2_with fail
  refine (Line_yes S.out (k := k + 1) HK.out hc HL.out (by rw [HSL.out]; omega)).mono ?_
  rintro e w1 ⟨v, rfl, hS⟩
  obtain ⟨A, c, rfl, hrd⟩ := hS.cellsRd (k := 0) rfl
  simp only [HSL.out] at hS ⊢
  have S1 := Lib.hid (hS.alloc1 (c1 := #[.slice A rs.length c, .bool s]) (t1 := 39))
  clear hS hrd
  go_wp2_with fail
  generalize w1.heap.size = b7 at S1 ⊢
  go_loopw [9] (fun vi wr => ∃ m : Nat, m ≤ rs.length ∧ vi = .int .i64 m ∧ Objs w0 wr (.box b7 39 #[.slice A rs.length c, .bool s] :: .cells (.slice A rs.length c) (rs.map letterC) :: .box g 21 (rs.map (Value.int .i32)).toArray :: os)) (fun vi _ => rs.length - (intOf vi).toNat)
  case atStart => exact ⟨0, Nat.zero_le _, rfl, S1.out⟩
  case round =>
    obtain ⟨m, hm, rfl, hS⟩ := hrel
    by_cases hlt : m < rs.length
    case neg =>
      have S3 := Lib.hid hS
      clear hS
      go_wp2_with fail
      go_ret
      exact ⟨rfl, S3.out.tail.tail⟩
    obtain ⟨gb, cb, e, hzb, -, hfb⟩ := hS.ownAt (k := 1) (j := m) (x := letterC rs[m]) rfl (by simp [hlt])
    simp only [Value.slice.injEq] at e
    obtain ⟨rfl, -, rfl⟩ := e
    have S3 := Lib.hid hS
    have hb0 : (0 : Int) ≤ (m : Int) := by omega
    have hb1 : (m : Int) < (rs.length : Int) := by omega
    clear hS S1
    go_upto_region 7 with (fail)
    refine wp_region_stage (w0 := w0) (os := os) (by kernel_rfl) (by kernel_rfl) (by kernel_rfl) [] [[], [0], [], [], [1], [], [], [], [2], [], []] [.box b7 39 #[.slice (some ⟨gb, 0, none⟩) rs.length c, .bool s], .cells (.slice (some ⟨gb, 0, none⟩) rs.length c) (rs.map letterC), .box g 21 (rs.map (Value.int .i32)).toArray] (fun opn u => match opn with | 0 => u = (.pointer (some ⟨b7, 0, none⟩) : Value) | 1 => u = (.slice (some ⟨gb, 0, none⟩) rs.length c : Value) | 2 => u = (.int .i64 ↑m : Value) | 3 => u = (.pointer (some ⟨gb, m * 16, none⟩) : Value) | 4 => u = (.agg (cv (letterC rs[m])) : Value) | 5 => u = (.slice (some ⟨g, 0, none⟩) rs.length cw : Value) | 6 => u = (.int .i64 ↑m : Value) | 7 => u = (.pointer (some ⟨g, m, none⟩) : Value) | 8 => u = (.int .i32 rs[m] : Value) | 9 => u = (.agg (cv (letterC rs[m])) : Value) | 10 => u = (.bool false : Value) | _ => True) (fun vs => [.box b7 39 #[.slice (some ⟨gb, 0, none⟩) rs.length c, .bool s], .cells (.slice (some ⟨gb, 0, none⟩) rs.length c) (rs.map letterC), .box g 21 (rs.map (Value.int .i32)).toArray]) (by kernel_rfl) (fun vs => by rfl) S3.out ?_ ?_
    · refine SSteps.cons (fun a w' vs σ hS hl hs hk => ?_) ?_
      · have e7 : a.tmps.getD 7 undef = (.pointer (some ⟨b7, 0, none⟩) : Value) := (sk_old hk 7 (by kernel_rfl)).trans rfl
        have f7 := gd e7
        exact ro_pure (v := .pointer (some ⟨b7, 0, none⟩)) (wanted_none rfl) (by simp [execOp, Act.eval, e7, f7, go_sem]) (sp_same (by kernel_rfl) hl hs hS (show (.pointer (some ⟨b7, 0, none⟩) : Value) = _ from rfl)) trivial
      refine SSteps.cons (fun a w' vs σ hS hl hs hk => ?_) ?_
      · have e32 : a.tmps.getD 32 undef = (.pointer (some ⟨b7, 0, none⟩) : Value) := (sk_val hk 0 (by kernel_rfl) rfl rfl).trans ((hk.1 0 (by kernel_rfl)).1)
        have f32 := gd e32
        have hx := (hS.box (sg (hs 0 (by decide)))).cell
        exact ro_pure (v := .slice (some ⟨gb, 0, none⟩) rs.length c) (wanted_none rfl) (by simp [execOp, Act.eval, e32, f32, go_sem, hx]) (sp_same (by kernel_rfl) hl hs hS (show (.slice (some ⟨gb, 0, none⟩) rs.length c : Value) = _ from rfl)) trivial
      refine SSteps.cons (fun a w' vs σ hS hl hs hk => ?_) ?_
      · have e9 : a.tmps.getD 9 undef = (.int .i64 ↑m : Value) := (sk_old hk 9 (by kernel_rfl)).trans rfl
        have f9 := gd e9
        exact ro_pure (v := .int .i64 ↑m) (wanted_none rfl) (by simp [execOp, Act.eval, e9, f9, go_sem]) (sp_same (by kernel_rfl) hl hs hS (show (.int .i64 ↑m : Value) = _ from rfl)) trivial
      refine SSteps.cons (fun a w' vs σ hS hl hs hk => ?_) ?_
      · have e33 : a.tmps.getD 33 undef = (.slice (some ⟨gb, 0, none⟩) rs.length c : Value) := (sk_val hk 1 (by kernel_rfl) rfl rfl).trans ((hk.1 1 (by kernel_rfl)).1)
        have f33 := gd e33
        have e34 : a.tmps.getD 34 undef = (.int .i64 ↑m : Value) := (sk_val hk 2 (by kernel_rfl) rfl rfl).trans ((hk.1 2 (by kernel_rfl)).1)
        have f34 := gd e34
        exact ro_pure (v := .pointer (some ⟨gb, m * 16, none⟩)) (wanted_none rfl) (by simp [execOp, Act.eval, e33, f33, e34, f34, go_sem, hb0, hb1]) (sp_same (by kernel_rfl) hl hs hS (show (.pointer (some ⟨gb, m * 16, none⟩) : Value) = _ from rfl)) trivial
      refine SSteps.cons (fun a w' vs σ hS hl hs hk => ?_) ?_
      · have e35 : a.tmps.getD 35 undef = (.pointer (some ⟨gb, m * 16, none⟩) : Value) := (sk_val hk 3 (by kernel_rfl) rfl rfl).trans ((hk.1 3 (by kernel_rfl)).1)
        have f35 := gd e35
        have hx := (cells_facts hS (sg (hs 1 (by decide))) (i := m) (c := (letterC rs[m])) (by simp [hlt])).2.2.1
        exact ro_pure (v := .agg (cv (letterC rs[m]))) (wanted_none rfl) (by simp [execOp, Act.eval, e35, f35, go_sem, hx]) (sp_same (by kernel_rfl) hl hs hS (show (.agg (cv (letterC rs[m])) : Value) = _ from rfl)) trivial
      refine SSteps.cons (fun a w' vs σ hS hl hs hk => ?_) ?_
      · have e2 : a.tmps.getD 2 undef = (.slice (some ⟨g, 0, none⟩) rs.length cw : Value) := (sk_old hk 2 (by kernel_rfl)).trans rfl
        have f2 := gd e2
        exact ro_pure (v := .slice (some ⟨g, 0, none⟩) rs.length cw) (wanted_none rfl) (by simp [execOp, Act.eval, e2, f2, go_sem]) (sp_same (by kernel_rfl) hl hs hS (show (.slice (some ⟨g, 0, none⟩) rs.length cw : Value) = _ from rfl)) trivial
      refine SSteps.cons (fun a w' vs σ hS hl hs hk => ?_) ?_
      · have e9 : a.tmps.getD 9 undef = (.int .i64 ↑m : Value) := (sk_old hk 9 (by kernel_rfl)).trans rfl
        have f9 := gd e9
        exact ro_pure (v := .int .i64 ↑m) (wanted_none rfl) (by simp [execOp, Act.eval, e9, f9, go_sem]) (sp_same (by kernel_rfl) hl hs hS (show (.int .i64 ↑m : Value) = _ from rfl)) trivial
      refine SSteps.cons (fun a w' vs σ hS hl hs hk => ?_) ?_
      · have e37 : a.tmps.getD 37 undef = (.slice (some ⟨g, 0, none⟩) rs.length cw : Value) := (sk_val hk 5 (by kernel_rfl) rfl rfl).trans ((hk.1 5 (by kernel_rfl)).1)
        have f37 := gd e37
        have e38 : a.tmps.getD 38 undef = (.int .i64 ↑m : Value) := (sk_val hk 6 (by kernel_rfl) rfl rfl).trans ((hk.1 6 (by kernel_rfl)).1)
        have f38 := gd e38
        exact ro_pure (v := .pointer (some ⟨g, m, none⟩)) (wanted_none rfl) (by simp [execOp, Act.eval, e37, f37, e38, f38, go_sem, hb0, hb1]) (sp_same (by kernel_rfl) hl hs hS (show (.pointer (some ⟨g, m, none⟩) : Value) = _ from rfl)) trivial
      refine SSteps.cons (fun a w' vs σ hS hl hs hk => ?_) ?_
      · have e39 : a.tmps.getD 39 undef = (.pointer (some ⟨g, m, none⟩) : Value) := (sk_val hk 7 (by kernel_rfl) rfl rfl).trans ((hk.1 7 (by kernel_rfl)).1)
        have f39 := gd e39
        have hx := (hS.box (sg (hs 2 (by decide)))).cell
        exact ro_pure (v := .int .i32 rs[m]) (wanted_none rfl) (by simp [execOp, Act.eval, e39, f39, go_sem, hx, hlt]) (sp_same (by kernel_rfl) hl hs hS (show (.int .i32 rs[m] : Value) = _ from rfl)) trivial
      refine SSteps.cons (fun a w' vs σ hS hl hs hk => ?_) ?_
      · have e40 : a.tmps.getD 40 undef = (.int .i32 rs[m] : Value) := (sk_val hk 8 (by kernel_rfl) rfl rfl).trans ((hk.1 8 (by kernel_rfl)).1)
        have f40 := gd e40
        exact ro_call (f := 45) (wanted_none rfl) rfl (by simp only [List.map_toArray, List.map_cons, List.map_nil, Act.eval, e40] <;> rfl) (fun _ _ => by kernel_rfl) ((l14letter_any rs[m] w').mono fun e w2 ⟨h1, h2⟩ => ⟨_, h1, sp_same (by kernel_rfl) hl hs (hS.bel h2) rfl, trivial⟩)
      refine SSteps.cons (fun a w' vs σ hS hl hs hk => ?_) ?_
      · have e36 : a.tmps.getD 36 undef = (.agg (cv (letterC rs[m])) : Value) := (sk_val hk 4 (by kernel_rfl) rfl rfl).trans ((hk.1 4 (by kernel_rfl)).1)
        have f36 := gd e36
        have e41 : a.tmps.getD 41 undef = (.agg (cv (letterC rs[m])) : Value) := (sk_val hk 9 (by kernel_rfl) rfl rfl).trans ((hk.1 9 (by kernel_rfl)).1)
        have f41 := gd e41
        exact ro_pure (v := .bool false) (wanted_none rfl) (by simp [execOp, Act.eval, e36, f36, e41, f41, go_sem]) (sp_same (by kernel_rfl) hl hs hS (show (.bool false : Value) = _ from rfl)) trivial
      exact SSteps.nil
    · intro vs w' hS hv
      have q0 := (show vs 0 = (.pointer (some ⟨b7, 0, none⟩) : Value) from hv 0 (by decide))
      have q1 := (show vs 1 = (.slice (some ⟨gb, 0, none⟩) rs.length c : Value) from hv 1 (by decide))
      have q2 := (show vs 2 = (.int .i64 ↑m : Value) from hv 2 (by decide))
      have q3 := (show vs 3 = (.pointer (some ⟨gb, m * 16, none⟩) : Value) from hv 3 (by decide))
      have q4 := (show vs 4 = (.agg (cv (letterC rs[m])) : Value) from hv 4 (by decide))
      have q5 := (show vs 5 = (.slice (some ⟨g, 0, none⟩) rs.length cw : Value) from hv 5 (by decide))
      have q6 := (show vs 6 = (.int .i64 ↑m : Value) from hv 6 (by decide))
      have q7 := (show vs 7 = (.pointer (some ⟨g, m, none⟩) : Value) from hv 7 (by decide))
      have q8 := (show vs 8 = (.int .i32 rs[m] : Value) from hv 8 (by decide))
      have q9 := (show vs 9 = (.agg (cv (letterC rs[m])) : Value) from hv 9 (by decide))
      have q10 := (show vs 10 = (.bool false : Value) from hv 10 (by decide))
      have S2 := Lib.hid hS
      simp only [putL, Act.put, Nat.zero_add, Nat.reduceAdd, List.setIfInBounds_toArray, List.set_cons_succ, List.set_cons_zero, q0, q1, q2, q3, q4, q5, q6, q7, q8, q9, q10]
      clear hS hv q0 q1 q2 q3 q4 q5 q6 q7 q8 q9 q10
      go_wp2_with fail
      go_roundw
      case rel => exact ⟨m + 1, by omega, by go_num, S2.out⟩
      case measure => simp [intOf]; omega
end
end Go.Proofs.YtppijfjigcoifaaDoor

/-
  The objects in another order, some left out, some places empty.
-/
set_option linter.unusedSimpArgs false
set_option linter.unusedVariables false
namespace Go.Proofs.YtppijfjigcoifaaDoor
open Go.RowKit

def pickAt (σ : List Ob) : Option Nat → Ob
  | some k => σ.getD k .none
  | none => .none
theorem Objs.pick {w0 w : World} {σ os : List Ob} (h : Objs w0 w (σ ++ os)) (ks : List (Option Nat)) (hn : (ks.filterMap id).Nodup) (hlt : (ks.filterMap id).all (fun k => decide (k < σ.length)) = true) : Objs w0 w (ks.map (pickAt σ) ++ os) := by
  obtain ⟨h1, F, h2, h3, h4, h5⟩ := h
  have hk : ∀ (i k : Nat), ks[i]? = some (some k) → k < σ.length := fun i k hi => by
    have := List.all_eq_true.1 hlt k (List.mem_filterMap.2 ⟨some k, List.mem_of_getElem? hi, rfl⟩)
    simpa using this
  have hinj : ∀ (i j k : Nat), ks[i]? = some (some k) → ks[j]? = some (some k) → i = j := by
    clear hk hlt h2 h3 h4 h5 h1
    induction ks with
    | nil => intro i j k hi; simp at hi
    | cons a r ih =>
      intro i j k hi hj
      have hr : (r.filterMap id).Nodup := by
        cases a with
        | none => simpa using hn
        | some x => simp at hn; exact hn.2
      have hno : ∀ m, a = some m → ∀ q, r[q]? ≠ some (some m) := fun m e q hq => by
        subst e
        simp at hn
        exact hn.1 (List.mem_of_getElem? hq)
      cases i with
      | zero =>
        cases j with
        | zero => rfl
        | succ j => simp at hi hj; exact (hno k hi j hj).elim
      | succ i =>
        cases j with
        | zero => simp at hi hj; exact (hno k hj i hi).elim
        | succ j => simp at hi hj; rw [ih hr i j k hi hj]
  refine ⟨h1, fun i b => if i < ks.length then ∃ k, ks[i]? = some (some k) ∧ F k b else F (i - ks.length + σ.length) b, fun i o hi => ?_, fun i b hb => ?_, fun i hi b hb => ?_, fun i j b hi hj => ?_⟩
  · by_cases hl : i < ks.length
    · simp only [hl, if_true]
      rw [List.getElem?_append_left (by simpa using hl), List.getElem?_map] at hi
      cases hks : ks[i]? with
      | none => rw [hks] at hi; simp at hi
      | some x =>
        rw [hks] at hi
        simp only [Option.map_some, Option.some.injEq] at hi
        cases x with
        | none => subst hi; rintro b ⟨k, e, -⟩; simp at e
        | some k =>
          have hlt := hk i k hks
          have hF : (fun b => ∃ k', some (some k) = some (some k') ∧ F k' b) = F k := by
            funext b
            exact propext ⟨fun ⟨k', e, hb⟩ => by simp at e; subst e; exact hb, fun hb => ⟨k, rfl, hb⟩⟩
          rw [hF]
          refine h2 k o ?_
          rw [List.getElem?_append_left hlt, ← hi]
          show σ[k]? = some (σ.getD k .none)
          rw [List.getD_eq_getElem?_getD, List.getElem?_eq_getElem hlt]; rfl
    · simp only [hl, if_false]
      rw [List.getElem?_append_right (by simp; omega), List.length_map] at hi
      refine h2 _ o ?_
      rw [List.getElem?_append_right (by omega), Nat.add_sub_cancel]; exact hi
  · simp only at hb
    split at hb
    · obtain ⟨k, -, hb⟩ := hb; exact h3 _ b hb
    · exact h3 _ b hb
  · simp only at hb
    simp only [List.length_append, List.length_map] at hi
    rw [if_neg (by omega)] at hb
    exact h4 _ (by simp; omega) b hb
  · simp only at hi hj
    split at hi
    · obtain ⟨k, hks, hi⟩ := hi
      split at hj
      · obtain ⟨k2, hks2, hj⟩ := hj
        have := h5 _ _ b hi hj
        subst this
        exact hinj i j _ hks hks2
      · have := h5 _ _ b hi hj
        have := hk i k hks
        omega
    · rename_i hil
      split at hj
      · obtain ⟨k2, hks2, hj⟩ := hj
        have := h5 _ _ b hi hj
        have := hk j k2 hks2
        omega
      · have := h5 _ _ b hi hj
        omega
end Go.Proofs.YtppijfjigcoifaaDoor

/-
  What a grid's methods answer where nothing is done.
-/
set_option linter.unusedSimpArgs false
set_option linter.unusedVariables false
namespace Go.Proofs.YtppijfjigcoifaaDoor
open Go.RowKit

theorem no_call {P : Program} {f : FuncId} {args : Array Value} {k : Nat} {o : Ob} {r r2 : Value} {w0 w : World} {os : List Ob} (hr : r = r2) (hS : Objs w0 w os) (hk : os[k]? = some o)
    (hc : ∀ os1, Objs w0 w (o :: os1) → Calls P f args w fun e w' => e = .returned r ∧ Objs w0 w' (o :: os1)) : Calls P f args w fun e w' => e = .returned r2 ∧ Objs w0 w' os := by
  subst hr
  have h := front_call hS hk hc
  rwa [set_self hk] at h
section
variable {w0 w : World} {os : List Ob} {k p cols : Nat} {L : List Ln}
theorem PutN {row col : Int} (x : Cell) (hT : Tabs w0) (hS : Objs w0 w os) (hk : os[k]? = some (.grid p 58 cols L)) (hc : 0 < cols) (hcm : cols ≤ 1000) (hno : ¬ putE row col x cols L.length = 0) :
    Calls Tryd.prog 33 #[.pointer (some ⟨p, 0, none⟩), .int .i64 row, .int .i64 col, .agg (cv x)] w fun e w' => e = .returned (.int .i64 (putE row col x cols L.length)) ∧ Objs w0 w' os := by
  by_cases h1 : here14 row L.length = true ∧ 0 ≤ col ∧ col < cols
  case neg =>
    have e : putE row col x cols L.length = 3 := if_pos h1
    refine no_call (by rw [e]) hS hk (fun os1 h => Put_out row col x h hc (fun hh => h1 ⟨decide_eq_true hh.1, hh.2⟩))
  obtain ⟨i, rfl, hi⟩ := here14_nat h1.1
  obtain ⟨j, rfl⟩ : ∃ j : Nat, col = j := ⟨col.toNat, by omega⟩
  have hj : j < cols := by omega
  have hu : putE i j x cols L.length = if ¬ (x.ok = true ∧ ¬ x.width = 0 ∧ (j : Int) + x.width ≤ cols) then 2 else 0 := if_neg (Classical.not_not.2 h1)
  by_cases h2 : x.ok = true ∧ ¬ x.width = 0 ∧ (j : Int) + x.width ≤ cols
  · exact (hno (hu.trans (if_neg (Classical.not_not.2 h2)))).elim
  have e : putE i j x cols L.length = 2 := hu.trans (if_pos h2)
  cases hv : x.ok with
  | false => exact no_call (by rw [e]) hS hk (fun os1 h => Put_bad1 x hT h hc hcm hi hj hv)
  | true =>
    by_cases hw : x.width = 0
    · exact no_call (by rw [e]) hS hk (fun os1 h => Put_bad2 x hT h hc hcm hi hj hv hw)
    · exact no_call (by rw [e]) hS hk (fun os1 h => Put_bad3 x hT h hc hcm hi hj hv hw (by
        have : ¬ ((j : Int) + x.width ≤ cols) := fun hh => h2 ⟨hv, hw, hh⟩
        omega))
end
end Go.Proofs.YtppijfjigcoifaaDoor

/-
  The law's known of chapter 14: the examples of the chapter.
-/
set_option linter.unusedSimpArgs false
set_option linter.unusedVariables false
namespace Go.Proofs.YtppijfjigcoifaaDoor
open Go.RowKit

theorem Objs.lineSoft {w0 w : World} {os : List Ob} {k i : Nat} {v : Value} {L : List Ln} {l : Ln} (hS : Objs w0 w os) (hk : os[k]? = some (.lines v L)) (hl : L[i]? = some l) : ∃ g c, v = .slice (some ⟨g, 0, none⟩) L.length c ∧ g < w.heap.size ∧ w.cell? ⟨g, i * 2 + 1, none⟩ = some (.bool l.2) ∧ ∀ j, w.frozen? ⟨g, j, none⟩ = false := by
  obtain ⟨F, bs, hF, -⟩ := hS.get hk
  obtain ⟨A2, c2, rfl, -, -, -, h4⟩ := hF.form
  obtain ⟨g, rfl, hz, -, hso, hfz⟩ := h4 (by have := (List.getElem?_eq_some_iff.1 hl).1; omega)
  exact ⟨g, c2, rfl, hz, hso i l hl, hfz⟩
def cW14 : Cell := ⟨20013, 0, 0, 0, 2, pen0⟩
def k14_0 : List Ln := List.replicate 2 (List.replicate 5 (blank pen0), false)
def k14_1 : List Ln := rowMod 0 (putC 1 cW14) k14_0
def k14_2 : List Ln := rowMod 0 (putC 2 (letterC 97)) k14_1
def k14_3 : List Ln := rowMod 0 (putC 3 cW14) k14_2
def k14_4 : List Ln := rowMod 0 (shiftN 0 5 1 pen0) k14_3
def k14_5 : List Ln := rowMod 0 (shiftN 3 5 (-1) pen0) k14_4
def k14_6 : List Ln := softMod 0 true k14_5
def k14_7 : List Ln := rollL 0 1 1 pen0 5 k14_6
theorem k14_rect0 : Rect 5 k14_0 := by intro l hl; revert l; decide +kernel
theorem k14_rect1 : Rect 5 k14_1 := by intro l hl; revert l; decide +kernel
theorem k14_rect2 : Rect 5 k14_2 := by intro l hl; revert l; decide +kernel
theorem k14_rect3 : Rect 5 k14_3 := by intro l hl; revert l; decide +kernel
theorem k14_rect4 : Rect 5 k14_4 := by intro l hl; revert l; decide +kernel
theorem k14_len2 : k14_2.length = 2 := by kernel_rfl
theorem k14_gone : rollGone 0 1 1 k14_6 = [([blank pen0, blank pen0, blank pen0, blank pen0, blank pen0], true)] := by decide +kernel
set_option maxRecDepth 100000 in
set_option maxHeartbeats 8000000 in
theorem l14known_any (w : World) (hT : Tabs w) : Calls Tryd.prog 16 #[] w fun e w' => e = .returned (.bool true) ∧ Below w.heap.size w w' := by
  have HT := Lib.hid hT
  clear hT
  go_enter Tryd.func16, Tryd.ntmps16
  go_wp2_with fail
  refine (gridNew_yes 2 5 (by decide) (by decide) (by decide) (by decide) w _ [] (objs_start w)).mono ?_
  rintro e w1 ⟨p, rfl, hS⟩
  have T0 := Lib.hid (show Objs w w1 [.grid p 58 5 k14_0] from hS)
  clear hS
  go_upto_region 3 with (fail)
  refine at_objsC (T0.out.alloc1 (c1 := cv cW14) (t1 := 71)) (fun W hW => ?_)
  generalize w1.heap.size = b3 at hW ⊢
  have T1 := Lib.hid hW
  clear hW T0
  have hc3 := (T1.out.box (k := 0) rfl).cellAt
  have hc3z := (T1.out.box (k := 0) rfl).lt
  go_wp2_with fail
  clear hc3 hc3z
  refine (show Calls Tryd.prog 33 #[.pointer (some ⟨p, 0, none⟩), .int .i64 0, .int .i64 1, .agg (cv cW14)] _ _ from (PutG (i := 0) (j := 1) cW14 HT.out T1.out (k := 1) rfl (by decide) k14_rect0 (by decide) (by decide +kernel) (by decide) (by decide))).mono ?_
  rintro e w3 ⟨rfl, hS⟩
  have T2 := Lib.hid (show Objs w _ [.box b3 71 (cv cW14), .grid p 58 5 k14_1] from hS)
  clear hS T1
  have hc3 := (T2.out.box (k := 0) rfl).cellAt
  have hc3z := (T2.out.box (k := 0) rfl).lt
  go_wp2_with fail
  clear hc3 hc3z
  refine (show Calls Tryd.prog 48 #[.pointer (some ⟨p, 0, none⟩), .int .i64 0, .int .i64 2] _ _ from (Cell_yes (i := 0) (j := 2) (l := k14_1[0]) (x := cell0) T2.out (k := 1) rfl (by decide) (by decide) rfl (by decide +kernel))).mono ?_
  rintro e w3 ⟨rfl, hS⟩
  have T3 := Lib.hid (show Objs w _ [.box b3 71 (cv cW14), .grid p 58 5 k14_1] from hS)
  clear hS T2
  have hc3 := (T3.out.box (k := 0) rfl).cellAt
  have hc3z := (T3.out.box (k := 0) rfl).lt
  go_upto_region 6 with (fail)
  clear hc3 hc3z
  refine at_objsC (T3.out.alloc1 (c1 := cv cell0) (t1 := 71)) (fun W hW => ?_)
  generalize w3.heap.size = b4 at hW ⊢
  have T4 := Lib.hid hW
  clear hW T3
  have hc4 := (T4.out.box (k := 0) rfl).cellAt
  have hc4z := (T4.out.box (k := 0) rfl).lt
  have hc3 := (T4.out.box (k := 1) rfl).cellAt
  have hc3z := (T4.out.box (k := 1) rfl).lt
  go_wp2_with fail
  clear hc3 hc3z hc4 hc4z
  refine (l14letter_any 97 _).mono ?_
  rintro e w3 ⟨rfl, hb⟩
  have hS := T4.out.bel hb
  have T5 := Lib.hid (show Objs w _ [.box b4 71 (cv cell0), .box b3 71 (cv cW14), .grid p 58 5 k14_1] from hS)
  clear hS hb T4
  have hc3 := (T5.out.box (k := 1) rfl).cellAt
  have hc3z := (T5.out.box (k := 1) rfl).lt
  go_wp2_with fail
  clear hc3 hc3z
  refine (show Calls Tryd.prog 33 #[.pointer (some ⟨p, 0, none⟩), .int .i64 0, .int .i64 2, .agg (cv (letterC 97))] _ _ from (PutG (i := 0) (j := 2) (letterC 97) HT.out T5.out (k := 2) rfl (by decide) k14_rect1 (by decide) (by decide +kernel) (by decide) (by decide))).mono ?_
  rintro e w3 ⟨rfl, hS⟩
  have T6 := Lib.hid (show Objs w _ [.box b4 71 (cv cell0), .box b3 71 (cv cW14), .grid p 58 5 k14_2] from hS)
  clear hS T5
  have hc3 := (T6.out.box (k := 1) rfl).cellAt
  have hc3z := (T6.out.box (k := 1) rfl).lt
  go_wp2_with fail
  clear hc3 hc3z
  refine (show Calls Tryd.prog 55 #[.pointer (some ⟨p, 0, none⟩), .int .i64 0, .int .i64 1] _ _ from (l14blank_yes (i := 0) (j := 1) (l := k14_2[0]) T6.out (k := 2) rfl (by decide) (by decide) rfl (by decide +kernel))).mono ?_
  rintro e w3 ⟨rfl, hS⟩
  have T7 := Lib.hid (show Objs w _ [.box b3 71 (cv cW14), .grid p 58 5 k14_2] from hS.tail)
  clear hS T6
  have hc3 := (T7.out.box (k := 0) rfl).cellAt
  have hc3z := (T7.out.box (k := 0) rfl).lt
  go_wp2_with fail
  clear hc3 hc3z
  refine (show Calls Tryd.prog 48 #[.pointer (some ⟨p, 0, none⟩), .int .i64 0, .int .i64 2] _ _ from (Cell_yes (i := 0) (j := 2) (l := k14_2[0]) (x := letterC 97) T7.out (k := 1) rfl (by decide) (by decide) rfl (by decide +kernel))).mono ?_
  rintro e w3 ⟨rfl, hS⟩
  have T8 := Lib.hid (show Objs w _ [.box b3 71 (cv cW14), .grid p 58 5 k14_2] from hS)
  clear hS T7
  have hc3 := (T8.out.box (k := 0) rfl).cellAt
  have hc3z := (T8.out.box (k := 0) rfl).lt
  go_upto_region 9 with (fail)
  clear hc3 hc3z
  refine at_objsC (T8.out.alloc1 (c1 := cv (letterC 97)) (t1 := 71)) (fun W hW => ?_)
  generalize w3.heap.size = b6 at hW ⊢
  have T9 := Lib.hid hW
  clear hW T8
  refine wp_region_stage (w0 := w) (os := []) (by kernel_rfl) (by kernel_rfl) (by kernel_rfl) [] [[0], [], [], [], [], [], [], [], [], [1], [2], [], [], [], [], [], [2], [], [], [], [], [], [2], [], []] [.box b6 71 (cv (letterC 97)), .box b3 71 (cv cW14), .grid p 58 ↑5 k14_2] (fun opn u => match opn with | 0 => u = (.agg (cv (letterC 97)) : Value) | 1 => u = (.agg (cv (letterC 97)) : Value) | 2 => u = (.bool false : Value) | 3 => u = (.bool false : Value) | 4 => u = (.int .i64 0 : Value) | 5 => u = (.bool false : Value) | 6 => u = (.bool false : Value) | 7 => u = (.bool false : Value) | 8 => u = (.pointer (some ⟨p, 0, none⟩) : Value) | 9 => u = (.agg (cv cW14) : Value) | 10 => u = (.int .i64 2 : Value) | 11 => u = (.bool false : Value) | 12 => u = (.bool false : Value) | 13 => u = (.bool false : Value) | 14 => u = (.pointer (some ⟨p, 0, none⟩) : Value) | 15 => u = (.agg (cv (letterC 97)) : Value) | 16 => u = (.int .i64 3 : Value) | 17 => u = (.bool false : Value) | 18 => u = (.bool false : Value) | 19 => u = (.bool false : Value) | 20 => u = (.pointer (some ⟨p, 0, none⟩) : Value) | 21 => u = (.agg (cv (letterC 97)) : Value) | 22 => u = (.int .i64 3 : Value) | 23 => u = (.bool false : Value) | 24 => u = (.bool false : Value) | _ => True) (fun vs => [.box b6 71 (cv (letterC 97)), .box b3 71 (cv cW14), .grid p 58 ↑5 k14_2]) (by kernel_rfl) (fun vs => by rfl) T9.out ?_ ?_
  · refine SSteps.cons (fun a w' vs σ hS hl hs hk => ?_) ?_
    · have e6 : a.tmps.getD 6 undef = (.pointer (some ⟨b6, 0, none⟩) : Value) := (sk_old hk 6 (by kernel_rfl)).trans rfl
      have f6 := gd e6
      have hx := (hS.box (sg (hs 0 (by decide)))).cellAt
      exact ro_pure (v := .agg (cv (letterC 97))) (wanted_none rfl) (by simp [execOp, Act.eval, e6, f6, go_sem, hx]) (sp_same (by kernel_rfl) hl hs hS (show (.agg (cv (letterC 97)) : Value) = _ from rfl)) trivial
    refine SSteps.cons (fun a w' vs σ hS hl hs hk => ?_) ?_
    · exact ro_call (f := 45) (wanted_none rfl) rfl (by simp only [List.map_toArray, List.map_cons, List.map_nil, Act.eval] <;> rfl) (fun _ _ => by kernel_rfl) ((l14letter_any 97 w').mono fun e w2 ⟨h1, h2⟩ => ⟨_, h1, sp_same (by kernel_rfl) hl hs (hS.bel h2) rfl, trivial⟩)
    refine SSteps.cons (fun a w' vs σ hS hl hs hk => ?_) ?_
    · have e58 : a.tmps.getD 58 undef = (.agg (cv (letterC 97)) : Value) := (sk_val hk 0 (by kernel_rfl) rfl rfl).trans ((hk.1 0 (by kernel_rfl)).1)
      have f58 := gd e58
      have e59 : a.tmps.getD 59 undef = (.agg (cv (letterC 97)) : Value) := (sk_val hk 1 (by kernel_rfl) rfl rfl).trans ((hk.1 1 (by kernel_rfl)).1)
      have f59 := gd e59
      exact ro_pure (v := .bool false) (wanted_none rfl) (by simp [execOp, Act.eval, e58, f58, e59, f59, go_sem]) (sp_same (by kernel_rfl) hl hs hS (show (.bool false : Value) = _ from rfl)) trivial
    refine SSteps.cons (fun a w' vs σ hS hl hs hk => ?_) ?_
    · have e60 : a.tmps.getD 60 undef = (.bool false : Value) := (sk_val hk 2 (by kernel_rfl) rfl rfl).trans ((hk.1 2 (by kernel_rfl)).1)
      have f60 := gd e60
      exact ro_pure (v := .bool false) (wanted_none rfl) (by simp [execOp, Act.eval, e60, f60, go_sem]) (sp_same (by kernel_rfl) hl hs hS (show (.bool false : Value) = _ from rfl)) trivial
    refine SSteps.cons (fun a w' vs σ hS hl hs hk => ?_) ?_
    · have e7 : a.tmps.getD 7 undef = (.int .i64 0 : Value) := (sk_old hk 7 (by kernel_rfl)).trans rfl
      have f7 := gd e7
      exact ro_pure (v := .int .i64 0) (wanted_yes rfl rfl rfl (show _ = _ from (sk_val hk 3 (by kernel_rfl) rfl rfl).trans ((hk.1 3 (by kernel_rfl)).1))) (by simp [execOp, Act.eval, e7, f7, go_sem]) (sp_same (by kernel_rfl) hl hs hS (show (.int .i64 0 : Value) = _ from rfl)) trivial
    refine SSteps.cons (fun a w' vs σ hS hl hs hk => ?_) ?_
    · have e62 : a.tmps.getD 62 undef = (.int .i64 0 : Value) := (sk_val hk 4 (by kernel_rfl) rfl rfl).trans ((hk.1 4 (by kernel_rfl)).1)
      have f62 := gd e62
      exact ro_pure (v := .bool false) (wanted_yes rfl rfl rfl (show _ = _ from (sk_val hk 3 (by kernel_rfl) rfl rfl).trans ((hk.1 3 (by kernel_rfl)).1))) (by simp [execOp, Act.eval, e62, f62, go_sem]) (sp_same (by kernel_rfl) hl hs hS (show (.bool false : Value) = _ from rfl)) trivial
    refine SSteps.cons (fun a w' vs σ hS hl hs hk => ?_) ?_
    · have e61 : a.tmps.getD 61 undef = (.bool false : Value) := (sk_val hk 3 (by kernel_rfl) rfl rfl).trans ((hk.1 3 (by kernel_rfl)).1)
      have f61 := gd e61
      have e63 : a.tmps.getD 63 undef = (.bool false : Value) := (sk_val hk 5 (by kernel_rfl) rfl rfl).trans ((hk.1 5 (by kernel_rfl)).1)
      have f63 := gd e63
      exact ro_pure (v := .bool false) (wanted_none rfl) (by simp [execOp, Act.eval, e61, f61, e63, f63, go_sem]) (sp_same (by kernel_rfl) hl hs hS (show (.bool false : Value) = _ from rfl)) trivial
    refine SSteps.cons (fun a w' vs σ hS hl hs hk => ?_) ?_
    · have e64 : a.tmps.getD 64 undef = (.bool false : Value) := (sk_val hk 6 (by kernel_rfl) rfl rfl).trans ((hk.1 6 (by kernel_rfl)).1)
      have f64 := gd e64
      exact ro_pure (v := .bool false) (wanted_none rfl) (by simp [execOp, Act.eval, e64, f64, go_sem]) (sp_same (by kernel_rfl) hl hs hS (show (.bool false : Value) = _ from rfl)) trivial
    refine SSteps.cons (fun a w' vs σ hS hl hs hk => ?_) ?_
    · have e1 : a.tmps.getD 1 undef = (.pointer (some ⟨p, 0, none⟩) : Value) := (sk_old hk 1 (by kernel_rfl)).trans rfl
      have f1 := gd e1
      exact ro_pure (v := .pointer (some ⟨p, 0, none⟩)) (wanted_yes rfl rfl rfl (show _ = _ from (sk_val hk 7 (by kernel_rfl) rfl rfl).trans ((hk.1 7 (by kernel_rfl)).1))) (by simp [execOp, Act.eval, e1, f1, go_sem]) (sp_same (by kernel_rfl) hl hs hS (show (.pointer (some ⟨p, 0, none⟩) : Value) = _ from rfl)) trivial
    refine SSteps.cons (fun a w' vs σ hS hl hs hk => ?_) ?_
    · have e3 : a.tmps.getD 3 undef = (.pointer (some ⟨b3, 0, none⟩) : Value) := (sk_old hk 3 (by kernel_rfl)).trans rfl
      have f3 := gd e3
      have hx := (hS.box (sg (hs 1 (by decide)))).cellAt
      exact ro_pure (v := .agg (cv cW14)) (wanted_yes rfl rfl rfl (show _ = _ from (sk_val hk 7 (by kernel_rfl) rfl rfl).trans ((hk.1 7 (by kernel_rfl)).1))) (by simp [execOp, Act.eval, e3, f3, go_sem, hx]) (sp_same (by kernel_rfl) hl hs hS (show (.agg (cv cW14) : Value) = _ from rfl)) trivial
    refine SSteps.cons (fun a w' vs σ hS hl hs hk => ?_) ?_
    · have e66 : a.tmps.getD 66 undef = (.pointer (some ⟨p, 0, none⟩) : Value) := (sk_val hk 8 (by kernel_rfl) rfl rfl).trans ((hk.1 8 (by kernel_rfl)).1)
      have f66 := gd e66
      have e67 : a.tmps.getD 67 undef = (.agg (cv cW14) : Value) := (sk_val hk 9 (by kernel_rfl) rfl rfl).trans ((hk.1 9 (by kernel_rfl)).1)
      have f67 := gd e67
      have hcon := PutN (row := 0) (col := 4) cW14 HT.out hS (k := 2) (sg (hs 2 (by decide))) (by decide) (by decide) (by rw [k14_len2]; decide +kernel)
      rw [show putE 0 4 cW14 5 k14_2.length = 2 by rw [k14_len2]; decide +kernel] at hcon
      exact ro_call (f := 33) (wanted_yes rfl rfl rfl (show _ = _ from (sk_val hk 7 (by kernel_rfl) rfl rfl).trans ((hk.1 7 (by kernel_rfl)).1))) rfl (by simp only [List.map_toArray, List.map_cons, List.map_nil, Act.eval, e66, e67] <;> rfl) (fun _ _ => by kernel_rfl) (hcon.mono fun e w2 ⟨h1, h2⟩ => ⟨_, h1, sp_same (by kernel_rfl) hl hs h2 rfl, trivial⟩)
    refine SSteps.cons (fun a w' vs σ hS hl hs hk => ?_) ?_
    · have e68 : a.tmps.getD 68 undef = (.int .i64 2 : Value) := (sk_val hk 10 (by kernel_rfl) rfl rfl).trans ((hk.1 10 (by kernel_rfl)).1)
      have f68 := gd e68
      exact ro_pure (v := .bool false) (wanted_yes rfl rfl rfl (show _ = _ from (sk_val hk 7 (by kernel_rfl) rfl rfl).trans ((hk.1 7 (by kernel_rfl)).1))) (by simp [execOp, Act.eval, e68, f68, go_sem]) (sp_same (by kernel_rfl) hl hs hS (show (.bool false : Value) = _ from rfl)) trivial
    refine SSteps.cons (fun a w' vs σ hS hl hs hk => ?_) ?_
    · have e65 : a.tmps.getD 65 undef = (.bool false : Value) := (sk_val hk 7 (by kernel_rfl) rfl rfl).trans ((hk.1 7 (by kernel_rfl)).1)
      have f65 := gd e65
      have e69 : a.tmps.getD 69 undef = (.bool false : Value) := (sk_val hk 11 (by kernel_rfl) rfl rfl).trans ((hk.1 11 (by kernel_rfl)).1)
      have f69 := gd e69
      exact ro_pure (v := .bool false) (wanted_none rfl) (by simp [execOp, Act.eval, e65, f65, e69, f69, go_sem]) (sp_same (by kernel_rfl) hl hs hS (show (.bool false : Value) = _ from rfl)) trivial
    refine SSteps.cons (fun a w' vs σ hS hl hs hk => ?_) ?_
    · have e70 : a.tmps.getD 70 undef = (.bool false : Value) := (sk_val hk 12 (by kernel_rfl) rfl rfl).trans ((hk.1 12 (by kernel_rfl)).1)
      have f70 := gd e70
      exact ro_pure (v := .bool false) (wanted_none rfl) (by simp [execOp, Act.eval, e70, f70, go_sem]) (sp_same (by kernel_rfl) hl hs hS (show (.bool false : Value) = _ from rfl)) trivial
    refine SSteps.cons (fun a w' vs σ hS hl hs hk => ?_) ?_
    · have e1 : a.tmps.getD 1 undef = (.pointer (some ⟨p, 0, none⟩) : Value) := (sk_old hk 1 (by kernel_rfl)).trans rfl
      have f1 := gd e1
      exact ro_pure (v := .pointer (some ⟨p, 0, none⟩)) (wanted_yes rfl rfl rfl (show _ = _ from (sk_val hk 13 (by kernel_rfl) rfl rfl).trans ((hk.1 13 (by kernel_rfl)).1))) (by simp [execOp, Act.eval, e1, f1, go_sem]) (sp_same (by kernel_rfl) hl hs hS (show (.pointer (some ⟨p, 0, none⟩) : Value) = _ from rfl)) trivial
    refine SSteps.cons (fun a w' vs σ hS hl hs hk => ?_) ?_
    · exact ro_call (f := 45) (wanted_yes rfl rfl rfl (show _ = _ from (sk_val hk 13 (by kernel_rfl) rfl rfl).trans ((hk.1 13 (by kernel_rfl)).1))) rfl (by simp only [List.map_toArray, List.map_cons, List.map_nil, Act.eval] <;> rfl) (fun _ _ => by kernel_rfl) ((l14letter_any 97 w').mono fun e w2 ⟨h1, h2⟩ => ⟨_, h1, sp_same (by kernel_rfl) hl hs (hS.bel h2) rfl, trivial⟩)
    refine SSteps.cons (fun a w' vs σ hS hl hs hk => ?_) ?_
    · have e72 : a.tmps.getD 72 undef = (.pointer (some ⟨p, 0, none⟩) : Value) := (sk_val hk 14 (by kernel_rfl) rfl rfl).trans ((hk.1 14 (by kernel_rfl)).1)
      have f72 := gd e72
      have e73 : a.tmps.getD 73 undef = (.agg (cv (letterC 97)) : Value) := (sk_val hk 15 (by kernel_rfl) rfl rfl).trans ((hk.1 15 (by kernel_rfl)).1)
      have f73 := gd e73
      have hcon := PutN (row := 2) (col := 0) (letterC 97) HT.out hS (k := 2) (sg (hs 2 (by decide))) (by decide) (by decide) (by rw [k14_len2]; decide +kernel)
      rw [show putE 2 0 (letterC 97) 5 k14_2.length = 3 by rw [k14_len2]; decide +kernel] at hcon
      exact ro_call (f := 33) (wanted_yes rfl rfl rfl (show _ = _ from (sk_val hk 13 (by kernel_rfl) rfl rfl).trans ((hk.1 13 (by kernel_rfl)).1))) rfl (by simp only [List.map_toArray, List.map_cons, List.map_nil, Act.eval, e72, e73] <;> rfl) (fun _ _ => by kernel_rfl) (hcon.mono fun e w2 ⟨h1, h2⟩ => ⟨_, h1, sp_same (by kernel_rfl) hl hs h2 rfl, trivial⟩)
    refine SSteps.cons (fun a w' vs σ hS hl hs hk => ?_) ?_
    · have e74 : a.tmps.getD 74 undef = (.int .i64 3 : Value) := (sk_val hk 16 (by kernel_rfl) rfl rfl).trans ((hk.1 16 (by kernel_rfl)).1)
      have f74 := gd e74
      exact ro_pure (v := .bool false) (wanted_yes rfl rfl rfl (show _ = _ from (sk_val hk 13 (by kernel_rfl) rfl rfl).trans ((hk.1 13 (by kernel_rfl)).1))) (by simp [execOp, Act.eval, e74, f74, go_sem]) (sp_same (by kernel_rfl) hl hs hS (show (.bool false : Value) = _ from rfl)) trivial
    refine SSteps.cons (fun a w' vs σ hS hl hs hk => ?_) ?_
    · have e71 : a.tmps.getD 71 undef = (.bool false : Value) := (sk_val hk 13 (by kernel_rfl) rfl rfl).trans ((hk.1 13 (by kernel_rfl)).1)
      have f71 := gd e71
      have e75 : a.tmps.getD 75 undef = (.bool false : Value) := (sk_val hk 17 (by kernel_rfl) rfl rfl).trans ((hk.1 17 (by kernel_rfl)).1)
      have f75 := gd e75
      exact ro_pure (v := .bool false) (wanted_none rfl) (by simp [execOp, Act.eval, e71, f71, e75, f75, go_sem]) (sp_same (by kernel_rfl) hl hs hS (show (.bool false : Value) = _ from rfl)) trivial
    refine SSteps.cons (fun a w' vs σ hS hl hs hk => ?_) ?_
    · have e76 : a.tmps.getD 76 undef = (.bool false : Value) := (sk_val hk 18 (by kernel_rfl) rfl rfl).trans ((hk.1 18 (by kernel_rfl)).1)
      have f76 := gd e76
      exact ro_pure (v := .bool false) (wanted_none rfl) (by simp [execOp, Act.eval, e76, f76, go_sem]) (sp_same (by kernel_rfl) hl hs hS (show (.bool false : Value) = _ from rfl)) trivial
    refine SSteps.cons (fun a w' vs σ hS hl hs hk => ?_) ?_
    · have e1 : a.tmps.getD 1 undef = (.pointer (some ⟨p, 0, none⟩) : Value) := (sk_old hk 1 (by kernel_rfl)).trans rfl
      have f1 := gd e1
      exact ro_pure (v := .pointer (some ⟨p, 0, none⟩)) (wanted_yes rfl rfl rfl (show _ = _ from (sk_val hk 19 (by kernel_rfl) rfl rfl).trans ((hk.1 19 (by kernel_rfl)).1))) (by simp [execOp, Act.eval, e1, f1, go_sem]) (sp_same (by kernel_rfl) hl hs hS (show (.pointer (some ⟨p, 0, none⟩) : Value) = _ from rfl)) trivial
    refine SSteps.cons (fun a w' vs σ hS hl hs hk => ?_) ?_
    · exact ro_call (f := 45) (wanted_yes rfl rfl rfl (show _ = _ from (sk_val hk 19 (by kernel_rfl) rfl rfl).trans ((hk.1 19 (by kernel_rfl)).1))) rfl (by simp only [List.map_toArray, List.map_cons, List.map_nil, Act.eval] <;> rfl) (fun _ _ => by kernel_rfl) ((l14letter_any 97 w').mono fun e w2 ⟨h1, h2⟩ => ⟨_, h1, sp_same (by kernel_rfl) hl hs (hS.bel h2) rfl, trivial⟩)
    refine SSteps.cons (fun a w' vs σ hS hl hs hk => ?_) ?_
    · have e78 : a.tmps.getD 78 undef = (.pointer (some ⟨p, 0, none⟩) : Value) := (sk_val hk 20 (by kernel_rfl) rfl rfl).trans ((hk.1 20 (by kernel_rfl)).1)
      have f78 := gd e78
      have e79 : a.tmps.getD 79 undef = (.agg (cv (letterC 97)) : Value) := (sk_val hk 21 (by kernel_rfl) rfl rfl).trans ((hk.1 21 (by kernel_rfl)).1)
      have f79 := gd e79
      have hcon := PutN (row := 0) (col := 5) (letterC 97) HT.out hS (k := 2) (sg (hs 2 (by decide))) (by decide) (by decide) (by rw [k14_len2]; decide +kernel)
      rw [show putE 0 5 (letterC 97) 5 k14_2.length = 3 by rw [k14_len2]; decide +kernel] at hcon
      exact ro_call (f := 33) (wanted_yes rfl rfl rfl (show _ = _ from (sk_val hk 19 (by kernel_rfl) rfl rfl).trans ((hk.1 19 (by kernel_rfl)).1))) rfl (by simp only [List.map_toArray, List.map_cons, List.map_nil, Act.eval, e78, e79] <;> rfl) (fun _ _ => by kernel_rfl) (hcon.mono fun e w2 ⟨h1, h2⟩ => ⟨_, h1, sp_same (by kernel_rfl) hl hs h2 rfl, trivial⟩)
    refine SSteps.cons (fun a w' vs σ hS hl hs hk => ?_) ?_
    · have e80 : a.tmps.getD 80 undef = (.int .i64 3 : Value) := (sk_val hk 22 (by kernel_rfl) rfl rfl).trans ((hk.1 22 (by kernel_rfl)).1)
      have f80 := gd e80
      exact ro_pure (v := .bool false) (wanted_yes rfl rfl rfl (show _ = _ from (sk_val hk 19 (by kernel_rfl) rfl rfl).trans ((hk.1 19 (by kernel_rfl)).1))) (by simp [execOp, Act.eval, e80, f80, go_sem]) (sp_same (by kernel_rfl) hl hs hS (show (.bool false : Value) = _ from rfl)) trivial
    refine SSteps.cons (fun a w' vs σ hS hl hs hk => ?_) ?_
    · have e77 : a.tmps.getD 77 undef = (.bool false : Value) := (sk_val hk 19 (by kernel_rfl) rfl rfl).trans ((hk.1 19 (by kernel_rfl)).1)
      have f77 := gd e77
      have e81 : a.tmps.getD 81 undef = (.bool false : Value) := (sk_val hk 23 (by kernel_rfl) rfl rfl).trans ((hk.1 23 (by kernel_rfl)).1)
      have f81 := gd e81
      exact ro_pure (v := .bool false) (wanted_none rfl) (by simp [execOp, Act.eval, e77, f77, e81, f81, go_sem]) (sp_same (by kernel_rfl) hl hs hS (show (.bool false : Value) = _ from rfl)) trivial
    exact SSteps.nil
  · intro vs w' hS hv
    have q0 := (show vs 0 = (.agg (cv (letterC 97)) : Value) from hv 0 (by decide))
    have q1 := (show vs 1 = (.agg (cv (letterC 97)) : Value) from hv 1 (by decide))
    have q2 := (show vs 2 = (.bool false : Value) from hv 2 (by decide))
    have q3 := (show vs 3 = (.bool false : Value) from hv 3 (by decide))
    have q4 := (show vs 4 = (.int .i64 0 : Value) from hv 4 (by decide))
    have q5 := (show vs 5 = (.bool false : Value) from hv 5 (by decide))
    have q6 := (show vs 6 = (.bool false : Value) from hv 6 (by decide))
    have q7 := (show vs 7 = (.bool false : Value) from hv 7 (by decide))
    have q8 := (show vs 8 = (.pointer (some ⟨p, 0, none⟩) : Value) from hv 8 (by decide))
    have q9 := (show vs 9 = (.agg (cv cW14) : Value) from hv 9 (by decide))
    have q10 := (show vs 10 = (.int .i64 2 : Value) from hv 10 (by decide))
    have q11 := (show vs 11 = (.bool false : Value) from hv 11 (by decide))
    have q12 := (show vs 12 = (.bool false : Value) from hv 12 (by decide))
    have q13 := (show vs 13 = (.bool false : Value) from hv 13 (by decide))
    have q14 := (show vs 14 = (.pointer (some ⟨p, 0, none⟩) : Value) from hv 14 (by decide))
    have q15 := (show vs 15 = (.agg (cv (letterC 97)) : Value) from hv 15 (by decide))
    have q16 := (show vs 16 = (.int .i64 3 : Value) from hv 16 (by decide))
    have q17 := (show vs 17 = (.bool false : Value) from hv 17 (by decide))
    have q18 := (show vs 18 = (.bool false : Value) from hv 18 (by decide))
    have q19 := (show vs 19 = (.bool false : Value) from hv 19 (by decide))
    have q20 := (show vs 20 = (.pointer (some ⟨p, 0, none⟩) : Value) from hv 20 (by decide))
    have q21 := (show vs 21 = (.agg (cv (letterC 97)) : Value) from hv 21 (by decide))
    have q22 := (show vs 22 = (.int .i64 3 : Value) from hv 22 (by decide))
    have q23 := (show vs 23 = (.bool false : Value) from hv 23 (by decide))
    have q24 := (show vs 24 = (.bool false : Value) from hv 24 (by decide))
    have S2 := Lib.hid hS
    simp only [putL, Act.put, Nat.zero_add, Nat.reduceAdd, List.setIfInBounds_toArray, List.set_cons_succ, List.set_cons_zero, q0, q1, q2, q3, q4, q5, q6, q7, q8, q9, q10, q11, q12, q13, q14, q15, q16, q17, q18, q19, q20, q21, q22, q23, q24]
    clear hS hv q0 q1 q2 q3 q4 q5 q6 q7 q8 q9 q10 q11 q12 q13 q14 q15 q16 q17 q18 q19 q20 q21 q22 q23 q24
    have T40 := Lib.hid (show Objs w _ [.box b3 71 (cv cW14), .grid p 58 5 k14_2] from S2.out.tail)
    clear S2
    have hc3 := (T40.out.box (k := 0) rfl).cellAt
    have hc3z := (T40.out.box (k := 0) rfl).lt
    go_wp2_with fail
    clear hc3 hc3z
    refine (show Calls Tryd.prog 33 #[.pointer (some ⟨p, 0, none⟩), .int .i64 0, .int .i64 3, .agg (cv cW14)] _ _ from (PutG (i := 0) (j := 3) cW14 HT.out T40.out (k := 1) rfl (by decide) k14_rect2 (by decide) (by decide +kernel) (by decide) (by decide))).mono ?_
    rintro e w3 ⟨rfl, hS⟩
    have T41 := Lib.hid (show Objs w _ [.grid p 58 5 k14_3] from hS.tail)
    clear hS T40
    go_wp2_with fail
    refine (show Calls Tryd.prog 52 #[.pointer (some ⟨p, 0, none⟩), .int .i64 0, .int .i64 0, .int .i64 1, .agg (pv pen0)] _ _ from (ShiftG (i := 0) (j := 0) (1) pen0 HT.out T41.out (k := 0) rfl (by decide) k14_rect3 (by decide) (by decide) (by decide) (by decide))).mono ?_
    rintro e w3 ⟨rfl, hS⟩
    have T42 := Lib.hid (show Objs w _ [.grid p 58 5 k14_4] from hS)
    clear hS T41
    go_wp2_with fail
    have hS := T42.out.alloc1 (c1 := (([0, 0, 0, 97, 0] : List Int).map (Value.int .i32)).toArray) (t1 := 21)
    have T43 := Lib.hid (show Objs w _ [.box w3.heap.size 21 (([0, 0, 0, 97, 0] : List Int).map (Value.int .i32)).toArray, .grid p 58 5 k14_4] from hS)
    clear hS T42
    refine (show Calls Tryd.prog 56 #[.pointer (some ⟨p, 0, none⟩), .int .i64 0, .slice (some ⟨w3.heap.size, 0, none⟩) 5 5] _ _ from (l14rowed_yes (y := 0) [0, 0, 0, 97, 0] false T43.out (k := 0) rfl (by decide) (by decide +kernel) (by decide))).mono ?_
    rintro e w3 ⟨rfl, hS⟩
    have T44 := Lib.hid (show Objs w _ [.grid p 58 5 k14_4] from hS.tail)
    clear hS T43
    go_wp2_with fail
    refine (show Calls Tryd.prog 52 #[.pointer (some ⟨p, 0, none⟩), .int .i64 0, .int .i64 3, .int .i64 (-1), .agg (pv pen0)] _ _ from (ShiftG (i := 0) (j := 3) (-1) pen0 HT.out T44.out (k := 0) rfl (by decide) k14_rect4 (by decide) (by decide) (by decide) (by decide))).mono ?_
    rintro e w3 ⟨rfl, hS⟩
    have T45 := Lib.hid (show Objs w _ [.grid p 58 5 k14_5] from hS)
    clear hS T44
    go_wp2_with fail
    have hS := T45.out.alloc1 (c1 := (([0, 0, 0, 0, 0] : List Int).map (Value.int .i32)).toArray) (t1 := 21)
    have T46 := Lib.hid (show Objs w _ [.box w3.heap.size 21 (([0, 0, 0, 0, 0] : List Int).map (Value.int .i32)).toArray, .grid p 58 5 k14_5] from hS)
    clear hS T45
    refine (show Calls Tryd.prog 56 #[.pointer (some ⟨p, 0, none⟩), .int .i64 0, .slice (some ⟨w3.heap.size, 0, none⟩) 5 5] _ _ from (l14rowed_yes (y := 0) [0, 0, 0, 0, 0] false T46.out (k := 0) rfl (by decide) (by decide +kernel) (by decide))).mono ?_
    rintro e w3 ⟨rfl, hS⟩
    have T47 := Lib.hid (show Objs w _ [.grid p 58 5 k14_5] from hS.tail)
    clear hS T46
    go_wp2_with fail
    refine (show Calls Tryd.prog 46 #[.pointer (some ⟨p, 0, none⟩), .int .i64 0, .bool true] _ _ from (SetSoftG (i := 0) true T47.out (k := 0) rfl (by decide) (by decide) (by decide))).mono ?_
    rintro e w3 ⟨rfl, hS⟩
    have T48 := Lib.hid (show Objs w _ [.grid p 58 5 k14_6] from hS)
    clear hS T47
    go_wp2_with fail
    refine (show Calls Tryd.prog 50 #[.pointer (some ⟨p, 0, none⟩), .agg #[.int .i64 0, .int .i64 1], .int .i64 1, .agg (pv pen0)] _ _ from RollG (top := 0) (bot := 1) 1 pen0 HT.out T48.out (k := 0) rfl (by decide) (by decide) (by decide) (by decide) (by decide) (by decide) (by decide)).mono ?_
    rintro e w3 ⟨Al, ml, cl, rfl, hS⟩
    rw [k14_gone] at hS
    have T49 := Lib.hid (show Objs w _ [.lines (.slice Al ml cl) [([blank pen0, blank pen0, blank pen0, blank pen0, blank pen0], true)], .grid p 58 5 k14_7] from hS)
    clear hS T48
    obtain ⟨gl, c2, e, hzl, hcl, hfl⟩ := T49.out.lineSoft (k := 0) (i := 0) rfl rfl
    simp only [Value.slice.injEq] at e
    obtain ⟨rfl, rfl, rfl⟩ := e
    go_wp2_with fail
    refine (gridNew_no 0 5 (by decide) _).mono ?_
    rintro e w4 ⟨rfl, rfl⟩
    go_wp2_with fail
    refine (gridNew_no 1 1001 (by decide) _).mono ?_
    rintro e w4 ⟨rfl, rfl⟩
    go_wp2_with fail
    clear hzl hcl hfl
    refine (show Calls Tryd.prog 17 #[.pointer (some ⟨p, 0, none⟩)] _ _ from (Rows_any T49.out (k := 1) rfl)).mono ?_
    rintro e w3 ⟨rfl, hS⟩
    have T50 := Lib.hid (show Objs w _ [.grid p 58 5 k14_7] from hS.tail)
    clear hS T49
    go_wp2_with fail
    refine (show Calls Tryd.prog 18 #[.pointer (some ⟨p, 0, none⟩)] _ _ from (Cols_any T50.out (k := 0) rfl)).mono ?_
    rintro e w3 ⟨rfl, hS⟩
    have T51 := Lib.hid (show Objs w _ [.grid p 58 5 k14_7] from hS)
    clear hS T50
    go_wp2_with fail
    refine (l14fails_any none 2 2 _).mono ?_
    rintro e w4 ⟨rfl, rfl⟩
    go_wp2_with fail
    refine (l14fails_any none 2 2 _).mono ?_
    rintro e w4 ⟨rfl, rfl⟩
    go_wp2_with fail
    go_ret
    exact ⟨rfl, T51.out.base⟩
end Go.Proofs.YtppijfjigcoifaaDoor

/-
  Rows stay valid: breaking, putting, clearing, shifting keep a row a row.
-/
set_option linter.unusedSimpArgs false
set_option linter.unusedVariables false
namespace Go.Proofs.YtppijfjigcoifaaDoor
open Go.RowKit

/-- A valid row, cell by cell. -/
structure RowC (cs : List Cell) (k : Nat) : Prop where
  ok : (cAt cs k).ok = true
  zero : (cAt cs k).width = 0 ↔ 1 ≤ k ∧ (cAt cs (k - 1)).width = 2
  pen : 1 ≤ k → (cAt cs (k - 1)).width = 2 → (cAt cs k).pen = (cAt cs (k - 1)).pen
  last : (cAt cs k).width = 2 → k + 1 < cs.length
def RowV (cs : List Cell) : Prop := ∀ k, k < cs.length → RowC cs k
theorem behind_is (cs : List Cell) (k : Nat) : behindAt cs k = true ↔ 1 ≤ k ∧ (cAt cs (k - 1)).width = 2 := by
  cases k with
  | zero => simp [behindAt]
  | succ k => simp [behindAt]
theorem rowAt_is {cs : List Cell} {k : Nat} (hk : k < cs.length) : rowAt cs k = true ↔ RowC cs k := by
  have hb := behind_is cs k
  unfold rowAt
  constructor
  · intro h
    simp only [Bool.and_eq_true, Bool.not_eq_true', Bool.or_eq_true, beq_iff_eq, decide_eq_true_eq] at h
    obtain ⟨⟨⟨h1, h2⟩, h3⟩, h4⟩ := h
    refine ⟨h1, ?_, ?_, ?_⟩
    · rw [← hb, ← h2, decide_eq_true_eq]
    · intro a b
      rcases h3 with h3 | h3
      · have := hb.2 ⟨a, b⟩; rw [h3] at this; cases this
      · exact h3
    · intro a
      rcases Nat.lt_or_ge (k + 1) cs.length with h5 | h5
      · exact h5
      · have e : k + 1 = cs.length := by omega
        simp [a, e] at h4
  · rintro ⟨h1, h2, h3, h4⟩
    simp only [Bool.and_eq_true, Bool.not_eq_true', Bool.or_eq_true, beq_iff_eq, decide_eq_true_eq]
    refine ⟨⟨⟨h1, ?_⟩, ?_⟩, ?_⟩
    · rw [Bool.eq_iff_iff, decide_eq_true_eq, hb]; exact h2
    · cases hbb : behindAt cs k with
      | false => exact .inl rfl
      | true => obtain ⟨a, b⟩ := hb.1 hbb; exact .inr (h3 a b)
    · rw [Bool.and_eq_false_iff]
      by_cases a : (cAt cs k).width = 2
      · exact .inr (by have := h4 a; simp; omega)
      · exact .inl (by simpa using a)
theorem rowOk_is {cs : List Cell} : rowOk cs = true ↔ RowV cs := by
  constructor
  · intro h k hk; exact (rowAt_is hk).1 (rowOk_at h hk)
  · intro h; exact rowOk_yes fun k hk => (rowAt_is hk).2 (h k hk)
theorem ok_penV {c : Cell} (h : c.ok = true) : c.pen.ok = true := by unfold Cell.ok at h; rw [Bool.and_eq_true] at h; exact h.1
theorem blank_ok' {p : Pen} (h : p.ok = true) : (blank p).ok = true := by rw [ok_blank]; exact h
theorem spacer_ok {p : Pen} (h : p.ok = true) : (spacer p).ok = true := by simp [Cell.ok, spacer, h, Cell.noMarks]
section
variable {cs : List Cell} {c j k : Nat} {x : Cell} {q : Pen}
theorem RowV.brk (h : RowV cs) (c : Nat) : RowV (brk c cs) := by
  intro k hk
  rw [brk_length] at hk
  have hg := cAt_brk c cs
  by_cases hc : 1 ≤ c ∧ c < cs.length ∧ (cAt cs (c - 1)).width = 2
  · have h0 := h k hk
    have h1 := h (c - 1) (by omega)
    have h2 := h c hc.2.1
    refine ⟨?_, ?_, ?_, ?_⟩
    · rw [hg]; split
      · exact blank_ok' (ok_penV h0.ok)
      · exact h0.ok
    · rw [hg, hg]
      have z0 := h0.zero
      have z1 := h1.zero
      have z2 := h2.zero
      have w0 : ∀ p, (blank p).width = 1 := fun _ => rfl
      grind
    · rw [hg, hg]
      have z0 := h0.pen
      have w0 : ∀ p, (blank p).width = 1 := fun _ => rfl
      have w1 : ∀ p, (blank p).pen = p := fun _ => rfl
      grind
    · rw [hg, brk_length]
      have z0 := h0.last
      have w0 : ∀ p, (blank p).width = 1 := fun _ => rfl
      grind
  · have e : ∀ i, cAt (Proofs.YtppijfjigcoifaaDoor.brk c cs) i = cAt cs i := fun i => by rw [hg, if_neg (fun a => hc a.1)]
    have h0 := h k hk
    exact ⟨by rw [e]; exact h0.ok, by rw [e, e]; exact h0.zero, by rw [e, e]; exact h0.pen, by rw [e, brk_length]; exact h0.last⟩
/-- A row that is cut between two cells: no wide cell ends there. -/
def CutAt (cs : List Cell) (c : Nat) : Prop := 1 ≤ c → c < cs.length → ¬ (cAt cs (c - 1)).width = 2
theorem cut_brk (c : Nat) (cs : List Cell) : CutAt (brk c cs) c := fun h1 h2 => brk_before h1 (by rwa [brk_length] at h2)
theorem CutAt.brk (h : CutAt cs j) (c : Nat) : CutAt (brk c cs) j := fun h1 h2 => by
  rw [brk_length] at h2
  rw [cAt_brk]
  split
  · simp [blank]
  · exact h h1 h2
theorem RowV.put (h : RowV cs) (hx : x.ok = true) (hw : x.width = 1 ∨ x.width = 2) (hj : (j : Int) + x.width ≤ cs.length) : RowV (putC j x cs) := by
  obtain ⟨b, hb⟩ : ∃ b, b = Proofs.YtppijfjigcoifaaDoor.brk (j + x.width.toNat) (Proofs.YtppijfjigcoifaaDoor.brk j cs) := ⟨_, rfl⟩
  have hbl : b.length = cs.length := by rw [hb, brk_length, brk_length]
  have hv : RowV b := by rw [hb]; exact (h.brk j).brk _
  have hc1 : CutAt b j := by rw [hb]; exact (cut_brk j cs).brk _
  have hc2 : CutAt b (j + x.width.toNat) := by rw [hb]; exact cut_brk _ _
  have hg : ∀ i, cAt (putC j x cs) i = if x.width = 2 ∧ i = j + 1 ∧ j + 1 < cs.length then spacer x.pen else if i = j then x else cAt b i := fun i => by
    unfold putC
    simp only [← hb]
    by_cases h2 : x.width = 2
    · rw [if_pos h2, cAt_set, cAt_set, List.length_set, hbl]; grind
    · rw [if_neg h2, cAt_set, hbl]; grind
  intro k hk
  rw [putC_length] at hk
  have hk2 : k < b.length := by omega
  have h0 := hv k hk2
  have w0 : ∀ p, (spacer p).width = 0 := fun _ => rfl
  have w1 : ∀ p, (spacer p).pen = p := fun _ => rfl
  have z0 := h0.zero
  have z1 := h0.pen
  have z2 := h0.last
  unfold CutAt at hc1 hc2
  have hxw : x.width.toNat = 1 ∨ x.width.toNat = 2 := by omega
  refine ⟨?_, ?_, ?_, ?_⟩
  · rw [hg]; split
    · exact spacer_ok (ok_penV hx)
    · split
      · exact hx
      · exact h0.ok
  · rw [hg, hg]
    rcases hw with hw | hw
    · have e : x.width.toNat = 1 := by omega
      rw [e] at hc2
      grind
    · have e : x.width.toNat = 2 := by omega
      rw [e] at hc2
      grind
  · rw [hg, hg]
    rcases hw with hw | hw
    · grind
    · grind
  · rw [hg, putC_length]
    rcases hw with hw | hw
    · grind
    · grind
theorem RowV.clear {f t : Nat} (h : RowV cs) (hq : q.ok = true) (ht : t ≤ cs.length) : RowV (clearC f t q cs) := by
  by_cases hft : f < t
  case neg => unfold clearC; rw [if_neg hft]; exact h
  obtain ⟨b, hb⟩ : ∃ b, b = Proofs.YtppijfjigcoifaaDoor.brk t (Proofs.YtppijfjigcoifaaDoor.brk f cs) := ⟨_, rfl⟩
  have hbl : b.length = cs.length := by rw [hb, brk_length, brk_length]
  have hv : RowV b := by rw [hb]; exact (h.brk f).brk _
  have hc1 : CutAt b f := by rw [hb]; exact (cut_brk f cs).brk _
  have hc2 : CutAt b t := by rw [hb]; exact cut_brk _ _
  have hg : ∀ i, i < cs.length → cAt (clearC f t q cs) i = if f ≤ i ∧ i < t then blank q else cAt b i := fun i hi => by
    unfold clearC
    rw [if_pos hft, ← hb]
    rw [cAt_wipe (by rw [hbl]; omega), show f + (t - f) = t by omega]
  intro k hk
  rw [clearC_length ht] at hk
  have h0 := hv k (by omega)
  have w0 : ∀ p, (blank p).width = 1 := fun _ => rfl
  have z0 := h0.zero
  have z1 := h0.pen
  have z2 := h0.last
  have hgk := hg k hk
  have hgk1 : 1 ≤ k → cAt (clearC f t q cs) (k - 1) = if f ≤ k - 1 ∧ k - 1 < t then blank q else cAt b (k - 1) := fun _ => hg (k - 1) (by omega)
  unfold CutAt at hc1 hc2
  refine ⟨?_, ?_, ?_, ?_⟩
  · rw [hgk]; split
    · exact blank_ok' hq
    · exact h0.ok
  · rw [hgk]; grind
  · rw [hgk]; grind
  · rw [hgk, clearC_length ht]; grind
theorem RowV.shiftR (h : RowV cs) (hq : q.ok = true) (hjk : j + k ≤ cs.length) (hk0 : 0 < k) : RowV (shiftR j k q cs) := by
  obtain ⟨b, hb⟩ : ∃ b, b = Proofs.YtppijfjigcoifaaDoor.brk (cs.length - k) (Proofs.YtppijfjigcoifaaDoor.brk j cs) := ⟨_, rfl⟩
  have hbl : b.length = cs.length := by rw [hb, brk_length, brk_length]
  have hv : RowV b := by rw [hb]; exact (h.brk j).brk _
  have hc1 : CutAt b j := by rw [hb]; exact (cut_brk j cs).brk _
  have hc2 : CutAt b (cs.length - k) := by rw [hb]; exact cut_brk _ _
  have hg : ∀ i, i < cs.length → cAt (Proofs.YtppijfjigcoifaaDoor.shiftR j k q cs) i = if i < j then cAt b i else if i < j + k then blank q else cAt b (i - k) := fun i hi => by rw [cAt_shiftR hjk hi, ← hb]
  intro i hi
  rw [shiftR_length hjk] at hi
  have w0 : ∀ p, (blank p).width = 1 := fun _ => rfl
  have hgi := hg i hi
  have hgi1 : 1 ≤ i → cAt (Proofs.YtppijfjigcoifaaDoor.shiftR j k q cs) (i - 1) = if i - 1 < j then cAt b (i - 1) else if i - 1 < j + k then blank q else cAt b (i - 1 - k) := fun _ => hg (i - 1) (by omega)
  unfold CutAt at hc1 hc2
  by_cases h1 : i < j
  · have h0 := hv i (by omega)
    rw [if_pos h1] at hgi
    have e1 : 1 ≤ i → cAt (Proofs.YtppijfjigcoifaaDoor.shiftR j k q cs) (i - 1) = cAt b (i - 1) := fun a => by rw [hgi1 a, if_pos (by omega)]
    refine ⟨by rw [hgi]; exact h0.ok, ?_, ?_, ?_⟩
    · rw [hgi]; have := h0.zero; grind
    · rw [hgi]; have := h0.pen; grind
    · rw [hgi, shiftR_length hjk]; have := h0.last; grind
  rw [if_neg h1] at hgi
  by_cases h2 : i < j + k
  · rw [if_pos h2] at hgi
    refine ⟨by rw [hgi]; exact blank_ok' hq, ?_, ?_, ?_⟩
    · rw [hgi]; grind
    · rw [hgi]; grind
    · rw [hgi]; intro a; cases a
  rw [if_neg h2] at hgi
  have h0 := hv (i - k) (by omega)
  have z0 := h0.zero
  have z1 := h0.pen
  have z2 := h0.last
  by_cases h3 : i = j + k
  · subst h3
    have e1 : cAt (Proofs.YtppijfjigcoifaaDoor.shiftR j k q cs) (j + k - 1) = blank q := by rw [hgi1 (by omega), if_neg (by omega), if_pos (by omega)]
    rw [show j + k - k = j by omega] at hgi h0 z0 z1 z2
    refine ⟨by rw [hgi]; exact h0.ok, ?_, ?_, ?_⟩
    · rw [hgi, e1]; grind
    · rw [hgi, e1]; grind
    · rw [hgi, shiftR_length hjk]; grind
  · have e1 : cAt (Proofs.YtppijfjigcoifaaDoor.shiftR j k q cs) (i - 1) = cAt b (i - k - 1) := by rw [hgi1 (by omega), if_neg (by omega), if_neg (by omega)]; congr 1; omega
    refine ⟨by rw [hgi]; exact h0.ok, ?_, ?_, ?_⟩
    · rw [hgi, e1]; grind
    · rw [hgi, e1]; grind
    · rw [hgi, shiftR_length hjk]; grind
theorem RowV.shiftL (h : RowV cs) (hq : q.ok = true) (hjk : j + k ≤ cs.length) (hk0 : 0 < k) : RowV (shiftL j k q cs) := by
  obtain ⟨b, hb⟩ : ∃ b, b = Proofs.YtppijfjigcoifaaDoor.brk (j + k) (Proofs.YtppijfjigcoifaaDoor.brk j cs) := ⟨_, rfl⟩
  have hbl : b.length = cs.length := by rw [hb, brk_length, brk_length]
  have hv : RowV b := by rw [hb]; exact (h.brk j).brk _
  have hc1 : CutAt b j := by rw [hb]; exact (cut_brk j cs).brk _
  have hc2 : CutAt b (j + k) := by rw [hb]; exact cut_brk _ _
  have hg : ∀ i, i < cs.length → cAt (Proofs.YtppijfjigcoifaaDoor.shiftL j k q cs) i = if i < j then cAt b i else if i < cs.length - k then cAt b (i + k) else blank q := fun i hi => by rw [cAt_shiftL hjk hi, ← hb]
  intro i hi
  rw [shiftL_length hjk] at hi
  have w0 : ∀ p, (blank p).width = 1 := fun _ => rfl
  have hgi := hg i hi
  have hgi1 : 1 ≤ i → cAt (Proofs.YtppijfjigcoifaaDoor.shiftL j k q cs) (i - 1) = if i - 1 < j then cAt b (i - 1) else if i - 1 < cs.length - k then cAt b (i - 1 + k) else blank q := fun _ => hg (i - 1) (by omega)
  unfold CutAt at hc1 hc2
  by_cases h1 : i < j
  · have h0 := hv i (by omega)
    rw [if_pos h1] at hgi
    have e1 : 1 ≤ i → cAt (Proofs.YtppijfjigcoifaaDoor.shiftL j k q cs) (i - 1) = cAt b (i - 1) := fun a => by rw [hgi1 a, if_pos (by omega)]
    refine ⟨by rw [hgi]; exact h0.ok, ?_, ?_, ?_⟩
    · rw [hgi]; have := h0.zero; grind
    · rw [hgi]; have := h0.pen; grind
    · rw [hgi, shiftL_length hjk]; have := h0.last; grind
  rw [if_neg h1] at hgi
  by_cases h2 : i < cs.length - k
  · rw [if_pos h2] at hgi
    have h0 := hv (i + k) (by omega)
    have z0 := h0.zero
    have z1 := h0.pen
    have z2 := h0.last
    by_cases h3 : i = j
    · subst h3
      have e1 : 1 ≤ i → cAt (Proofs.YtppijfjigcoifaaDoor.shiftL i k q cs) (i - 1) = cAt b (i - 1) := fun a => by rw [hgi1 a, if_pos (by omega)]
      refine ⟨by rw [hgi]; exact h0.ok, ?_, ?_, ?_⟩
      · rw [hgi]; grind
      · rw [hgi]; grind
      · rw [hgi, shiftL_length hjk]; grind
    · have e1 : cAt (Proofs.YtppijfjigcoifaaDoor.shiftL j k q cs) (i - 1) = cAt b (i + k - 1) := by rw [hgi1 (by omega), if_neg (by omega), if_pos (by omega)]; congr 1; omega
      refine ⟨by rw [hgi]; exact h0.ok, ?_, ?_, ?_⟩
      · rw [hgi, e1]; grind
      · rw [hgi, e1]; grind
      · rw [hgi, shiftL_length hjk]; grind
  · rw [if_neg h2] at hgi
    have hl : ¬ (cAt b (cs.length - 1)).width = 2 := fun a => by have := (hv (cs.length - 1) (by omega)).last a; omega
    have e1 : 1 ≤ i → ¬ (cAt (Proofs.YtppijfjigcoifaaDoor.shiftL j k q cs) (i - 1)).width = 2 := fun a => by
      rw [hgi1 a]
      split
      · rw [show i - 1 = j - 1 by omega]; exact hc1 (by omega) (by omega)
      · split
        · rw [show i - 1 + k = cs.length - 1 by omega]; exact hl
        · intro e; cases e
    refine ⟨by rw [hgi]; exact blank_ok' hq, ?_, ?_, ?_⟩
    · rw [hgi]; grind
    · rw [hgi]; grind
    · rw [hgi]; intro a; cases a
end
/-- All rows are valid. -/
def AllV (L : List Ln) : Prop := ∀ l ∈ L, RowV l.1
theorem AllV.lnMod {L : List Ln} (h : AllV L) (i : Nat) {F : Ln → Ln} (hF : ∀ l : Ln, l ∈ L → RowV (F l).1) : AllV (lnMod i F L) := by
  unfold Proofs.YtppijfjigcoifaaDoor.lnMod
  split
  · rename_i l hl
    intro x hx
    rcases List.mem_or_eq_of_mem_set hx with h1 | rfl
    · exact h x h1
    · exact hF l (List.mem_of_getElem? hl)
  · exact h
theorem rowV_blanks {n : Nat} {q : Pen} (hq : q.ok = true) : RowV (List.replicate n (blank q)) := fun k hk => by
  rw [List.length_replicate] at hk
  have e : ∀ i, i < n → cAt (List.replicate n (blank q)) i = blank q := fun i hi => by rw [cAt_eq (by simpa using hi)]; simp
  refine ⟨by rw [e k hk]; exact blank_ok' hq, ?_, ?_, ?_⟩
  · rw [e k hk]
    constructor
    · intro a; cases a
    · rintro ⟨a, b⟩; rw [e (k - 1) (by omega)] at b; cases b
  · intro a b; rw [e (k - 1) (by omega)] at b; cases b
  · rw [e k hk]; intro a; cases a
end Go.Proofs.YtppijfjigcoifaaDoor

/-
  Printing, in plain Lean: what becomes of a row and of the cursor.
-/
set_option linter.unusedSimpArgs false
set_option linter.unusedVariables false
namespace Go.Proofs.YtppijfjigcoifaaDoor
open Go.RowKit

section
variable {j k cols : Nat} {x : Cell} {cs : List Cell} {ins : Bool}
end
end Go.Proofs.YtppijfjigcoifaaDoor

/-
  Rows stay valid under shifting and rolling; how far putting reaches; what a roll hands on and leaves.
-/
set_option linter.unusedSimpArgs false
set_option linter.unusedVariables false
namespace Go.Proofs.YtppijfjigcoifaaDoor
open Go.RowKit

section
variable {cs : List Cell} {j k cols : Nat} {x : Cell} {q : Pen} {n : Int}
theorem RowV.shiftN (h : RowV cs) (hq : q.ok = true) (hl : cs.length = cols) (hj : j < cols) : RowV (shiftN j cols n q cs) := by
  unfold Proofs.YtppijfjigcoifaaDoor.shiftN
  by_cases h0 : n = 0
  · rw [if_pos h0]; exact h
  rw [if_neg h0]
  split
  · exact h.shiftR hq (by omega) (by omega)
  · exact h.shiftL hq (by omega) (by omega)
end
section
variable {top bot cols : Nat} {n : Int} {q : Pen} {L : List Ln}
theorem AllV.roll (h : AllV L) (hq : q.ok = true) (htb : top ≤ bot) (hbl : bot < L.length) : AllV (rollL top bot n q cols L) := fun l hl => by
  obtain ⟨r, hr, rfl⟩ := List.getElem_of_mem hl
  have h1 := rollL_get (n := n) (q := q) (cols := cols) htb hbl r
  rw [List.getElem?_eq_getElem hr] at h1
  have hm : ∀ (o : Option Ln) (p : Prop) [Decidable p] (x : Ln), (∀ y : Ln, o = some y → RowV y.1) → some x = o.map (hardIf p) → RowV x.1 := fun o p _ x ho h => by
    cases o with
    | none => simp at h
    | some y => simp only [Option.map_some, Option.some.injEq] at h; subst h; unfold hardIf; split <;> exact ho y rfl
  have hL : ∀ (i : Nat) (y : Ln), L[i]? = some y → RowV y.1 := fun i y hy => h y (List.mem_of_getElem? hy)
  have hfr : ∀ x : Ln, some x = some (freshLn cols q) → RowV x.1 := fun x e => by simp only [Option.some.injEq] at e; rw [e]; exact rowV_blanks hq
  by_cases hn : n = 0
  · unfold rollAt at h1; rw [if_pos hn] at h1; exact hL r _ h1.symm
  by_cases ho : r < top ∨ bot < r
  · rw [rollAt_out hn ho] at h1; exact hm _ _ _ (hL r) h1
  by_cases hp : 0 < n
  · by_cases h2 : r + rollK n (bot + 1 - top) ≤ bot
    · rw [rollAt_up hp rfl ho h2] at h1; exact hm _ _ _ (hL _) h1
    · rw [rollAt_upf hp rfl ho h2] at h1; exact hfr _ h1
  · have hn2 : n < 0 := by omega
    by_cases h2 : r < top + rollK n (bot + 1 - top)
    · rw [rollAt_dnf hn2 rfl ho h2] at h1; exact hfr _ h1
    · rw [rollAt_dn hn2 rfl ho h2] at h1; exact hm _ _ _ (hL _) h1
end
end Go.Proofs.YtppijfjigcoifaaDoor

/-
  Rows stay valid under the calls of the chapter on grids.
-/
set_option linter.unusedSimpArgs false
set_option linter.unusedVariables false
namespace Go.Proofs.YtppijfjigcoifaaDoor
open Go.RowKit

theorem ok_row {l : List Cell} (h : lineOk l = true) : rowOk l = true := by simp [lineOk] at h; exact h.2
theorem ok_of_row {l : List Cell} (h : RowV l) (hn : l.length ≤ 1000) : lineOk l = true := by simp [lineOk, rowOk_is.2 h, hn]
theorem AllV.rowMod {L : List Ln} (h : AllV L) (i : Nat) {f : List Cell → List Cell} (hf : ∀ l : Ln, l ∈ L → RowV (f l.1)) : AllV (rowMod i f L) := by
  rw [rowMod_is]; exact h.lnMod i hf
theorem AllV.softMod {L : List Ln} (h : AllV L) (i : Nat) (s : Bool) : AllV (softMod i s L) := by
  rw [softMod_is]; exact h.lnMod i (fun l hl => h l hl)
theorem AllV.set {L : List Ln} (h : AllV L) (i : Nat) {l : Ln} (hl : RowV l.1) : AllV (L.set i l) := fun x hx => by
  rcases List.mem_or_eq_of_mem_set hx with h1 | rfl
  · exact h x h1
  · exact hl
theorem AllV.lineOk {L : List Ln} {cols : Nat} (h : AllV L) (hR : Rect cols L) (hcm : cols ≤ 1000) : ∀ l ∈ L, lineOk l.1 = true := fun l hl => ok_of_row (h l hl) (by rw [hR l hl]; exact hcm)
end Go.Proofs.YtppijfjigcoifaaDoor

/-
  alike: a grid is the reference's, and what it returns is the caller's own.
-/
set_option linter.unusedSimpArgs false
set_option linter.unusedVariables false
namespace Go.Proofs.YtppijfjigcoifaaDoor
open Go.RowKit

theorem tg {σ os z : List Ob} {k : Nat} {o : Ob} (hl : σ.length = z.length) (hk : os[k]? = some o) : (σ ++ os)[z.length + k]? = some o := by
  rw [← hl, List.getElem?_append_right (Nat.le_add_right _ _), Nat.add_sub_cancel_left]; exact hk
/-- A cell's width is 9 from then on. -/
def set9 (k : Nat) (cs : List Cell) : List Cell := match cs[k]? with | some x => cs.set k { x with width := 9 } | none => cs
theorem set9_length (k : Nat) (cs : List Cell) : (set9 k cs).length = cs.length := by unfold set9; split <;> simp
theorem cellW_at {k : Nat} {cs : List Cell} {x : Cell} (h : cs[k]? = some x) : cs.set k { x with width := 9 } = set9 k cs := by unfold set9; rw [h]
section
variable {w0 w : World} {os : List Ob} {k p cols : Nat} {L : List Ln}
set_option maxRecDepth 100000 in
set_option maxHeartbeats 8000000 in
theorem l14alike_any {j x : Nat} (hT : Tabs w0) (hS : Objs w0 w os) (hk : os[k]? = some (.grid p 58 cols L)) (hx : os[j]? = some (.grid x 33 cols L)) (hc : 0 < cols) (hcm : cols ≤ 1000) (hR : Rect cols L) (hV : AllV L) (hLm : L.length ≤ 1000) :
    Calls Tryd.prog 26 #[.pointer (some ⟨p, 0, none⟩), .pointer (some ⟨x, 0, none⟩)] w fun e w' => e = .returned (.bool true) ∧ Objs w0 w' os := by
  have S := Lib.hid hS
  have HT := Lib.hid hT
  have HK := Lib.hid hk
  have HX := Lib.hid hx
  have HR := Lib.hid hR
  have HLO := Lib.hid (hV.lineOk hR hcm)
  have HM := Lib.hid (hR.mill hcm)
  have hlm3 : L.length ≤ 1000000 := by omega
  clear hS hT hk hx hR hV
  go_enter Tryd.func26, Tryd.ntmps26
  go_upto_region 1 with (fail)
  refine wp_region_stage (w0 := w0) (os := os) (by kernel_rfl) (by kernel_rfl) (by kernel_rfl) [] [[], [], [], [], [], [], [], [], [], [], [], [], [], [], [], [], [], [], [], [], []] [] (fun opn u => match opn with | 0 => u = (.pointer (some ⟨p, 0, none⟩) : Value) | 1 => u = (.bool false : Value) | 2 => u = (.bool false : Value) | 3 => u = (.pointer (some ⟨p, 0, none⟩) : Value) | 4 => u = (.int .i64 L.length : Value) | 5 => u = (.pointer (some ⟨x, 0, none⟩) : Value) | 6 => u = (.pointer (some ⟨x, 0, none⟩) : Value) | 7 => u = (.pointer (some ⟨x, 1, none⟩) : Value) | 8 => ∃ A c, u = .slice A L.length c | 9 => u = (.int .i64 L.length : Value) | 10 => u = (.bool false : Value) | 11 => u = (.bool false : Value) | 12 => u = (.bool false : Value) | 13 => u = (.pointer (some ⟨p, 0, none⟩) : Value) | 14 => u = (.int .i64 cols : Value) | 15 => u = (.pointer (some ⟨x, 0, none⟩) : Value) | 16 => u = (.pointer (some ⟨x, 0, none⟩) : Value) | 17 => u = (.pointer (some ⟨x, 0, none⟩) : Value) | 18 => u = (.int .i64 cols : Value) | 19 => u = (.bool false : Value) | 20 => u = (.bool false : Value) | _ => True) (fun vs => []) (by kernel_rfl) (fun vs => by rfl) S.out ?_ ?_
  · refine SSteps.cons (fun a w' vs σ hS hl hs hk => ?_) ?_
    · have e0 : a.tmps.getD 0 undef = (.pointer (some ⟨p, 0, none⟩) : Value) := (sk_old hk 0 (by kernel_rfl)).trans rfl
      have f0 := gd e0
      exact ro_pure (v := .pointer (some ⟨p, 0, none⟩)) (wanted_none rfl) (by simp [execOp, Act.eval, e0, f0, go_sem]) (sp_same (by kernel_rfl) hl hs hS (show (.pointer (some ⟨p, 0, none⟩) : Value) = _ from rfl)) trivial
    refine SSteps.cons (fun a w' vs σ hS hl hs hk => ?_) ?_
    · have e13 : a.tmps.getD 13 undef = (.pointer (some ⟨p, 0, none⟩) : Value) := (sk_val hk 0 (by kernel_rfl) rfl rfl).trans ((hk.1 0 (by kernel_rfl)).1)
      have f13 := gd e13
      exact ro_pure (v := .bool false) (wanted_none rfl) (by simp [execOp, Act.eval, e13, f13, go_sem]) (sp_same (by kernel_rfl) hl hs hS (show (.bool false : Value) = _ from rfl)) trivial
    refine SSteps.cons (fun a w' vs σ hS hl hs hk => ?_) ?_
    · have e14 : a.tmps.getD 14 undef = (.bool false : Value) := (sk_val hk 1 (by kernel_rfl) rfl rfl).trans ((hk.1 1 (by kernel_rfl)).1)
      have f14 := gd e14
      exact ro_pure (v := .bool false) (wanted_none rfl) (by simp [execOp, Act.eval, e14, f14, go_sem]) (sp_same (by kernel_rfl) hl hs hS (show (.bool false : Value) = _ from rfl)) trivial
    refine SSteps.cons (fun a w' vs σ hS hl hs hk => ?_) ?_
    · have e0 : a.tmps.getD 0 undef = (.pointer (some ⟨p, 0, none⟩) : Value) := (sk_old hk 0 (by kernel_rfl)).trans rfl
      have f0 := gd e0
      exact ro_pure (v := .pointer (some ⟨p, 0, none⟩)) (wanted_yes rfl rfl rfl (show _ = _ from (sk_val hk 2 (by kernel_rfl) rfl rfl).trans ((hk.1 2 (by kernel_rfl)).1))) (by simp [execOp, Act.eval, e0, f0, go_sem]) (sp_same (by kernel_rfl) hl hs hS (show (.pointer (some ⟨p, 0, none⟩) : Value) = _ from rfl)) trivial
    refine SSteps.cons (fun a w' vs σ hS hl hs hk => ?_) ?_
    · have e16 : a.tmps.getD 16 undef = (.pointer (some ⟨p, 0, none⟩) : Value) := (sk_val hk 3 (by kernel_rfl) rfl rfl).trans ((hk.1 3 (by kernel_rfl)).1)
      have f16 := gd e16
      exact ro_call (f := 17) (wanted_yes rfl rfl rfl (show _ = _ from (sk_val hk 2 (by kernel_rfl) rfl rfl).trans ((hk.1 2 (by kernel_rfl)).1))) rfl (by simp only [List.map_toArray, List.map_cons, List.map_nil, Act.eval, e16] <;> rfl) (fun _ _ => by kernel_rfl) ((Rows_any hS (tg hl HK.out)).mono fun e w2 ⟨h1, h2⟩ => ⟨_, h1, sp_same (by kernel_rfl) hl hs h2 rfl, trivial⟩)
    refine SSteps.cons (fun a w' vs σ hS hl hs hk => ?_) ?_
    · have e1 : a.tmps.getD 1 undef = (.pointer (some ⟨x, 0, none⟩) : Value) := (sk_old hk 1 (by kernel_rfl)).trans rfl
      have f1 := gd e1
      exact ro_pure (v := .pointer (some ⟨x, 0, none⟩)) (wanted_yes rfl rfl rfl (show _ = _ from (sk_val hk 2 (by kernel_rfl) rfl rfl).trans ((hk.1 2 (by kernel_rfl)).1))) (by simp [execOp, Act.eval, e1, f1, go_sem]) (sp_same (by kernel_rfl) hl hs hS (show (.pointer (some ⟨x, 0, none⟩) : Value) = _ from rfl)) trivial
    refine SSteps.cons (fun a w' vs σ hS hl hs hk => ?_) ?_
    · have e18 : a.tmps.getD 18 undef = (.pointer (some ⟨x, 0, none⟩) : Value) := (sk_val hk 5 (by kernel_rfl) rfl rfl).trans ((hk.1 5 (by kernel_rfl)).1)
      have f18 := gd e18
      exact ro_pure (v := .pointer (some ⟨x, 0, none⟩)) (wanted_yes rfl rfl rfl (show _ = _ from (sk_val hk 2 (by kernel_rfl) rfl rfl).trans ((hk.1 2 (by kernel_rfl)).1))) (by simp [execOp, Act.eval, e18, f18, go_sem]) (sp_same (by kernel_rfl) hl hs hS (show (.pointer (some ⟨x, 0, none⟩) : Value) = _ from rfl)) trivial
    refine SSteps.cons (fun a w' vs σ hS hl hs hk => ?_) ?_
    · have e19 : a.tmps.getD 19 undef = (.pointer (some ⟨x, 0, none⟩) : Value) := (sk_val hk 6 (by kernel_rfl) rfl rfl).trans ((hk.1 6 (by kernel_rfl)).1)
      have f19 := gd e19
      exact ro_pure (v := .pointer (some ⟨x, 1, none⟩)) (wanted_yes rfl rfl rfl (show _ = _ from (sk_val hk 2 (by kernel_rfl) rfl rfl).trans ((hk.1 2 (by kernel_rfl)).1))) (by simp [execOp, Act.eval, e19, f19, go_sem]) (sp_same (by kernel_rfl) hl hs hS (show (.pointer (some ⟨x, 1, none⟩) : Value) = _ from rfl)) trivial
    refine SSteps.cons (fun a w' vs σ hS hl hs hk => ?_) ?_
    · have e20 : a.tmps.getD 20 undef = (.pointer (some ⟨x, 1, none⟩) : Value) := (sk_val hk 7 (by kernel_rfl) rfl rfl).trans ((hk.1 7 (by kernel_rfl)).1)
      have f20 := gd e20
      obtain ⟨A5, c5, hB5, -, -⟩ := hS.gridRd (tg hl HX.out)
      have hx := hB5.cell
      exact ro_pure (v := .slice A5 L.length c5) (wanted_yes rfl rfl rfl (show _ = _ from (sk_val hk 2 (by kernel_rfl) rfl rfl).trans ((hk.1 2 (by kernel_rfl)).1))) (by simp [execOp, Act.eval, e20, f20, go_sem, hx]) (sp_same (by kernel_rfl) hl hs hS ⟨A5, c5, rfl⟩) trivial
    refine SSteps.cons (fun a w' vs σ hS hl hs hk => ?_) ?_
    · have e21 : a.tmps.getD 21 undef = vs 8 := sk_val hk 8 (by kernel_rfl) rfl rfl
      have p21 : (fun u : Value => ∃ A c, u = .slice A L.length c) (vs 8) := (hk.1 8 (by kernel_rfl)).1
      have f21 := gd e21
      obtain ⟨A5, c5, q5⟩ := p21
      exact ro_pure (v := .int .i64 L.length) (wanted_yes rfl rfl rfl (show _ = _ from (sk_val hk 2 (by kernel_rfl) rfl rfl).trans ((hk.1 2 (by kernel_rfl)).1))) (by simp [execOp, Act.eval, e21, f21, go_sem, q5]) (sp_same (by kernel_rfl) hl hs hS rfl) trivial
    refine SSteps.cons (fun a w' vs σ hS hl hs hk => ?_) ?_
    · have e17 : a.tmps.getD 17 undef = (.int .i64 L.length : Value) := (sk_val hk 4 (by kernel_rfl) rfl rfl).trans ((hk.1 4 (by kernel_rfl)).1)
      have f17 := gd e17
      have e22 : a.tmps.getD 22 undef = (.int .i64 L.length : Value) := (sk_val hk 9 (by kernel_rfl) rfl rfl).trans ((hk.1 9 (by kernel_rfl)).1)
      have f22 := gd e22
      exact ro_pure (v := .bool false) (wanted_yes rfl rfl rfl (show _ = _ from (sk_val hk 2 (by kernel_rfl) rfl rfl).trans ((hk.1 2 (by kernel_rfl)).1))) (by simp [execOp, Act.eval, e17, f17, e22, f22, go_sem]) (sp_same (by kernel_rfl) hl hs hS (show (.bool false : Value) = _ from rfl)) trivial
    refine SSteps.cons (fun a w' vs σ hS hl hs hk => ?_) ?_
    · have e15 : a.tmps.getD 15 undef = (.bool false : Value) := (sk_val hk 2 (by kernel_rfl) rfl rfl).trans ((hk.1 2 (by kernel_rfl)).1)
      have f15 := gd e15
      have e23 : a.tmps.getD 23 undef = (.bool false : Value) := (sk_val hk 10 (by kernel_rfl) rfl rfl).trans ((hk.1 10 (by kernel_rfl)).1)
      have f23 := gd e23
      exact ro_pure (v := .bool false) (wanted_none rfl) (by simp [execOp, Act.eval, e15, f15, e23, f23, go_sem]) (sp_same (by kernel_rfl) hl hs hS (show (.bool false : Value) = _ from rfl)) trivial
    refine SSteps.cons (fun a w' vs σ hS hl hs hk => ?_) ?_
    · have e24 : a.tmps.getD 24 undef = (.bool false : Value) := (sk_val hk 11 (by kernel_rfl) rfl rfl).trans ((hk.1 11 (by kernel_rfl)).1)
      have f24 := gd e24
      exact ro_pure (v := .bool false) (wanted_none rfl) (by simp [execOp, Act.eval, e24, f24, go_sem]) (sp_same (by kernel_rfl) hl hs hS (show (.bool false : Value) = _ from rfl)) trivial
    refine SSteps.cons (fun a w' vs σ hS hl hs hk => ?_) ?_
    · have e0 : a.tmps.getD 0 undef = (.pointer (some ⟨p, 0, none⟩) : Value) := (sk_old hk 0 (by kernel_rfl)).trans rfl
      have f0 := gd e0
      exact ro_pure (v := .pointer (some ⟨p, 0, none⟩)) (wanted_yes rfl rfl rfl (show _ = _ from (sk_val hk 12 (by kernel_rfl) rfl rfl).trans ((hk.1 12 (by kernel_rfl)).1))) (by simp [execOp, Act.eval, e0, f0, go_sem]) (sp_same (by kernel_rfl) hl hs hS (show (.pointer (some ⟨p, 0, none⟩) : Value) = _ from rfl)) trivial
    refine SSteps.cons (fun a w' vs σ hS hl hs hk => ?_) ?_
    · have e26 : a.tmps.getD 26 undef = (.pointer (some ⟨p, 0, none⟩) : Value) := (sk_val hk 13 (by kernel_rfl) rfl rfl).trans ((hk.1 13 (by kernel_rfl)).1)
      have f26 := gd e26
      exact ro_call (f := 18) (wanted_yes rfl rfl rfl (show _ = _ from (sk_val hk 12 (by kernel_rfl) rfl rfl).trans ((hk.1 12 (by kernel_rfl)).1))) rfl (by simp only [List.map_toArray, List.map_cons, List.map_nil, Act.eval, e26] <;> rfl) (fun _ _ => by kernel_rfl) ((Cols_any hS (tg hl HK.out)).mono fun e w2 ⟨h1, h2⟩ => ⟨_, h1, sp_same (by kernel_rfl) hl hs h2 rfl, trivial⟩)
    refine SSteps.cons (fun a w' vs σ hS hl hs hk => ?_) ?_
    · have e1 : a.tmps.getD 1 undef = (.pointer (some ⟨x, 0, none⟩) : Value) := (sk_old hk 1 (by kernel_rfl)).trans rfl
      have f1 := gd e1
      exact ro_pure (v := .pointer (some ⟨x, 0, none⟩)) (wanted_yes rfl rfl rfl (show _ = _ from (sk_val hk 12 (by kernel_rfl) rfl rfl).trans ((hk.1 12 (by kernel_rfl)).1))) (by simp [execOp, Act.eval, e1, f1, go_sem]) (sp_same (by kernel_rfl) hl hs hS (show (.pointer (some ⟨x, 0, none⟩) : Value) = _ from rfl)) trivial
    refine SSteps.cons (fun a w' vs σ hS hl hs hk => ?_) ?_
    · have e28 : a.tmps.getD 28 undef = (.pointer (some ⟨x, 0, none⟩) : Value) := (sk_val hk 15 (by kernel_rfl) rfl rfl).trans ((hk.1 15 (by kernel_rfl)).1)
      have f28 := gd e28
      exact ro_pure (v := .pointer (some ⟨x, 0, none⟩)) (wanted_yes rfl rfl rfl (show _ = _ from (sk_val hk 12 (by kernel_rfl) rfl rfl).trans ((hk.1 12 (by kernel_rfl)).1))) (by simp [execOp, Act.eval, e28, f28, go_sem]) (sp_same (by kernel_rfl) hl hs hS (show (.pointer (some ⟨x, 0, none⟩) : Value) = _ from rfl)) trivial
    refine SSteps.cons (fun a w' vs σ hS hl hs hk => ?_) ?_
    · have e29 : a.tmps.getD 29 undef = (.pointer (some ⟨x, 0, none⟩) : Value) := (sk_val hk 16 (by kernel_rfl) rfl rfl).trans ((hk.1 16 (by kernel_rfl)).1)
      have f29 := gd e29
      exact ro_pure (v := .pointer (some ⟨x, 0, none⟩)) (wanted_yes rfl rfl rfl (show _ = _ from (sk_val hk 12 (by kernel_rfl) rfl rfl).trans ((hk.1 12 (by kernel_rfl)).1))) (by simp [execOp, Act.eval, e29, f29, go_sem]) (sp_same (by kernel_rfl) hl hs hS (show (.pointer (some ⟨x, 0, none⟩) : Value) = _ from rfl)) trivial
    refine SSteps.cons (fun a w' vs σ hS hl hs hk => ?_) ?_
    · have e30 : a.tmps.getD 30 undef = (.pointer (some ⟨x, 0, none⟩) : Value) := (sk_val hk 17 (by kernel_rfl) rfl rfl).trans ((hk.1 17 (by kernel_rfl)).1)
      have f30 := gd e30
      obtain ⟨A5, c5, hB5, -, -⟩ := hS.gridRd (tg hl HX.out)
      have hx := hB5.cell
      exact ro_pure (v := .int .i64 cols) (wanted_yes rfl rfl rfl (show _ = _ from (sk_val hk 12 (by kernel_rfl) rfl rfl).trans ((hk.1 12 (by kernel_rfl)).1))) (by simp [execOp, Act.eval, e30, f30, go_sem, hx]) (sp_same (by kernel_rfl) hl hs hS rfl) trivial
    refine SSteps.cons (fun a w' vs σ hS hl hs hk => ?_) ?_
    · have e27 : a.tmps.getD 27 undef = (.int .i64 cols : Value) := (sk_val hk 14 (by kernel_rfl) rfl rfl).trans ((hk.1 14 (by kernel_rfl)).1)
      have f27 := gd e27
      have e31 : a.tmps.getD 31 undef = (.int .i64 cols : Value) := (sk_val hk 18 (by kernel_rfl) rfl rfl).trans ((hk.1 18 (by kernel_rfl)).1)
      have f31 := gd e31
      exact ro_pure (v := .bool false) (wanted_yes rfl rfl rfl (show _ = _ from (sk_val hk 12 (by kernel_rfl) rfl rfl).trans ((hk.1 12 (by kernel_rfl)).1))) (by simp [execOp, Act.eval, e27, f27, e31, f31, go_sem]) (sp_same (by kernel_rfl) hl hs hS (show (.bool false : Value) = _ from rfl)) trivial
    refine SSteps.cons (fun a w' vs σ hS hl hs hk => ?_) ?_
    · have e25 : a.tmps.getD 25 undef = (.bool false : Value) := (sk_val hk 12 (by kernel_rfl) rfl rfl).trans ((hk.1 12 (by kernel_rfl)).1)
      have f25 := gd e25
      have e32 : a.tmps.getD 32 undef = (.bool false : Value) := (sk_val hk 19 (by kernel_rfl) rfl rfl).trans ((hk.1 19 (by kernel_rfl)).1)
      have f32 := gd e32
      exact ro_pure (v := .bool false) (wanted_none rfl) (by simp [execOp, Act.eval, e25, f25, e32, f32, go_sem]) (sp_same (by kernel_rfl) hl hs hS (show (.bool false : Value) = _ from rfl)) trivial
    exact SSteps.nil
  · intro vs w' hS hv
    have q0 := (show vs 0 = (.pointer (some ⟨p, 0, none⟩) : Value) from hv 0 (by decide))
    have q1 := (show vs 1 = (.bool false : Value) from hv 1 (by decide))
    have q2 := (show vs 2 = (.bool false : Value) from hv 2 (by decide))
    have q3 := (show vs 3 = (.pointer (some ⟨p, 0, none⟩) : Value) from hv 3 (by decide))
    have q4 := (show vs 4 = (.int .i64 L.length : Value) from hv 4 (by decide))
    have q5 := (show vs 5 = (.pointer (some ⟨x, 0, none⟩) : Value) from hv 5 (by decide))
    have q6 := (show vs 6 = (.pointer (some ⟨x, 0, none⟩) : Value) from hv 6 (by decide))
    have q7 := (show vs 7 = (.pointer (some ⟨x, 1, none⟩) : Value) from hv 7 (by decide))
    have q9 := (show vs 9 = (.int .i64 L.length : Value) from hv 9 (by decide))
    have q10 := (show vs 10 = (.bool false : Value) from hv 10 (by decide))
    have q11 := (show vs 11 = (.bool false : Value) from hv 11 (by decide))
    have q12 := (show vs 12 = (.bool false : Value) from hv 12 (by decide))
    have q13 := (show vs 13 = (.pointer (some ⟨p, 0, none⟩) : Value) from hv 13 (by decide))
    have q14 := (show vs 14 = (.int .i64 cols : Value) from hv 14 (by decide))
    have q15 := (show vs 15 = (.pointer (some ⟨x, 0, none⟩) : Value) from hv 15 (by decide))
    have q16 := (show vs 16 = (.pointer (some ⟨x, 0, none⟩) : Value) from hv 16 (by decide))
    have q17 := (show vs 17 = (.pointer (some ⟨x, 0, none⟩) : Value) from hv 17 (by decide))
    have q18 := (show vs 18 = (.int .i64 cols : Value) from hv 18 (by decide))
    have q19 := (show vs 19 = (.bool false : Value) from hv 19 (by decide))
    have q20 := (show vs 20 = (.bool false : Value) from hv 20 (by decide))
    obtain ⟨A8, c8, q8⟩ := (show ∃ A c, vs 8 = .slice A L.length c from hv 8 (by decide))
    have S2 := Lib.hid hS
    simp only [putL, Act.put, Nat.zero_add, Nat.reduceAdd, List.setIfInBounds_toArray, List.set_cons_succ, List.set_cons_zero, q0, q1, q2, q3, q4, q5, q6, q7, q9, q10, q11, q12, q13, q14, q15, q16, q17, q18, q19, q20]
    clear hS hv q0 q1 q2 q3 q4 q5 q6 q7 q9 q10 q11 q12 q13 q14 q15 q16 q17 q18 q19 q20
    simp only [q8]
    clear q8 S
    go_wp2_with fail
    go_loopw [5, 6, 7, 8, 9, 10, 11, 12] (fun vt _ _ _ _ _ _ _ wr => ∃ t : Nat, t ≤ 2 ∧ vt = .int .i64 t ∧ Objs w0 wr os) (fun vt _ _ _ _ _ _ _ _ => 2 - (intOf vt).toNat)
    case atStart => exact ⟨0, by omega, rfl, S2.out⟩
    case round =>
      clear S2
      obtain ⟨t, ht, rfl, hS⟩ := hrel
      have S := Lib.hid hS
      clear hS
      by_cases hlt : t < 2
      case neg =>
        go_wp2_with fail
        go_ret
        exact ⟨rfl, S.out⟩
      go_wp2_with fail
      refine (Lines_any S.out HK.out hc HM.out hlm3).mono ?_
      rintro e w1 ⟨v, rfl, hS⟩
      obtain ⟨A1, c1, rfl, hcl, hrl⟩ := hS.linesRd (k := 0) rfl
      have HRL := Lib.hid hrl
      obtain ⟨Ax, cx, hBx, hmx, hrx⟩ := hS.gridRd (k := j + 1) HX.out
      have HRX := Lib.hid hrx
      obtain ⟨hxx, hfx, hzx⟩ := hBx.facts
      have S1 := Lib.hid hS
      clear hS hrl hBx hmx hrx S
      go_wp2_with fail
      have hcon := r14SameLines_any A1 Ax c1 cx L L w1 HRL.out HRX.out hlm3 hlm3 HM.out HM.out
      rw [show decide (L = L) = true by simp] at hcon
      refine hcon.mono ?_
      rintro e w2 ⟨rfl, hb⟩
      have S3 := Lib.hid (S1.out.bel hb)
      clear hb hcon HRL HRX hxx hfx hzx S1
      go_wp2_with fail
      go_loopw [7, 8, 9, 10, 11, 12] (fun vi _ _ _ _ _ wr => ∃ (i : Nat) (LL : List Ln), i ≤ L.length ∧ vi = .int .i64 i ∧ Hid (LL.length = L.length ∧ Rect cols LL) ∧ Objs w0 wr (.lines (.slice A1 L.length c1) LL :: os)) (fun vi _ _ _ _ _ _ => L.length - (intOf vi).toNat)
      case atStart => exact ⟨0, L, Nat.zero_le _, rfl, Lib.hid ⟨rfl, HR.out⟩, S3.out⟩
      case round =>
        clear S3
        obtain ⟨i, LL, hi, rfl, HLL, hS⟩ := hrel
        have S := Lib.hid hS
        clear hS
        by_cases hlt2 : i < L.length
        case neg =>
          go_wp2_with fail
          go_roundw
          case rel => exact ⟨t + 1, by omega, by go_num, S.out.tail⟩
          case measure => simp [intOf]; omega
        obtain ⟨l, hl⟩ := get_of hlt2
        have HL := Lib.hid hl
        have HLC := Lib.hid (show l.1.length = cols from HR.out.at_ hl)
        have HLN := Lib.hid (show l.1.length ≤ 1000000 by rw [HLC.out]; omega)
        have HV1 := Lib.hid (HLO.out l (List.mem_of_getElem? hl))
        clear hl
        go_wp2_with fail
        refine (Line_yes S.out (k := k + 1) HK.out hc HL.out HLN.out).mono ?_
        rintro e w1 ⟨v, rfl, hS⟩
        obtain ⟨A8, c8, rfl, hr8⟩ := hS.cellsRd (k := 0) rfl
        have S1 := Lib.hid (hS.alloc1 (c1 := #[.slice A8 l.1.length c8, .bool l.2]) (t1 := 39))
        clear hS hr8 S
        go_upto_region 13 with (fail)
        refine at_objsC (S1.out : Objs w0 _ (.box _ 39 #[.slice A8 l.1.length c8, .bool l.2] :: _)) (fun W hW => ?_)
        obtain ⟨hx8, hf8, hz8⟩ := (hW.box (k := 0) rfl).facts
        have HA8 := Lib.hid (hW.cellsRd' (k := 1) rfl).2
        obtain ⟨Ax, cx, hBx, hmx, hrx⟩ := hW.gridRd (k := j + 3) HX.out
        obtain ⟨hxx, hfx, hzx⟩ := hBx.facts
        obtain ⟨gx, ox, Ar, cr, rfl, hzg, hc1, hc2, hrr⟩ := hrx.at_ HL.out
        have HAR := Lib.hid hrr
        have HTW := Lib.hid (hW.tabs HT.out)
        have SW := Lib.hid hW
        have hb0 : (0 : Int) ≤ (i : Int) := by omega
        have hb1 : (i : Int) < (L.length : Int) := by omega
        clear hW hBx hmx hrx hrr S1
        generalize w1.heap.size = b8 at hx8 hf8 hz8 SW ⊢
        refine wp_region_stage (w0 := W) (os := []) (by kernel_rfl) (by kernel_rfl) (by kernel_rfl) [] [[], [], [], [], [], [], [], [], [], [], [], [], [], [], [], [], [], [], []] [] (fun opn u => match opn with | 0 => u = (.agg #[.slice A8 l.1.length c8, .bool l.2] : Value) | 1 => u = (.pointer (some ⟨x, 0, none⟩) : Value) | 2 => u = (.pointer (some ⟨x, 0, none⟩) : Value) | 3 => u = (.pointer (some ⟨x, 1, none⟩) : Value) | 4 => u = (.slice (some ⟨gx, ox, none⟩) L.length cx : Value) | 5 => u = (.int .i64 ↑i : Value) | 6 => u = (.pointer (some ⟨gx, ox + i * 2, none⟩) : Value) | 7 => u = (.agg #[.slice Ar l.1.length cr, .bool l.2] : Value) | 8 => u = (.bool true : Value) | 9 => u = (.bool false : Value) | 10 => u = (.bool false : Value) | 11 => u = (.int .i64 0 : Value) | 12 => u = (.bool false : Value) | 13 => u = (.bool false : Value) | 14 => u = (.bool false : Value) | 15 => u = (.agg #[.slice A8 l.1.length c8, .bool l.2] : Value) | 16 => u = (.bool true : Value) | 17 => u = (.bool false : Value) | 18 => u = (.bool false : Value) | _ => True) (fun vs => []) (by kernel_rfl) (fun vs => by rfl) (objs_start W) ?_ ?_
        · refine SSteps.cons (fun a w' vs σ hS hl hs hk => ?_) ?_
          · have e8 : a.tmps.getD 8 undef = (.pointer (some ⟨b8, 0, none⟩) : Value) := (sk_old hk 8 (by kernel_rfl)).trans rfl
            have f8 := gd e8
            have hx := (hS.base.cell (p := ⟨b8, 0, none⟩) hz8).trans (hx8 0)
            have hy := (hS.base.cell (p := ⟨b8, 1, none⟩) hz8).trans (hx8 1)
            exact ro_pure (v := .agg #[.slice A8 l.1.length c8, .bool l.2]) (wanted_none rfl) (by simp [execOp, Act.eval, e8, f8, go_sem, hx, hy]) (sp_same (by kernel_rfl) hl hs hS (show (.agg #[.slice A8 l.1.length c8, .bool l.2] : Value) = _ from rfl)) trivial
          refine SSteps.cons (fun a w' vs σ hS hl hs hk => ?_) ?_
          · have e1 : a.tmps.getD 1 undef = (.pointer (some ⟨x, 0, none⟩) : Value) := (sk_old hk 1 (by kernel_rfl)).trans rfl
            have f1 := gd e1
            exact ro_pure (v := .pointer (some ⟨x, 0, none⟩)) (wanted_none rfl) (by simp [execOp, Act.eval, e1, f1, go_sem]) (sp_same (by kernel_rfl) hl hs hS (show (.pointer (some ⟨x, 0, none⟩) : Value) = _ from rfl)) trivial
          refine SSteps.cons (fun a w' vs σ hS hl hs hk => ?_) ?_
          · have e60 : a.tmps.getD 60 undef = (.pointer (some ⟨x, 0, none⟩) : Value) := (sk_val hk 1 (by kernel_rfl) rfl rfl).trans ((hk.1 1 (by kernel_rfl)).1)
            have f60 := gd e60
            exact ro_pure (v := .pointer (some ⟨x, 0, none⟩)) (wanted_none rfl) (by simp [execOp, Act.eval, e60, f60, go_sem]) (sp_same (by kernel_rfl) hl hs hS (show (.pointer (some ⟨x, 0, none⟩) : Value) = _ from rfl)) trivial
          refine SSteps.cons (fun a w' vs σ hS hl hs hk => ?_) ?_
          · have e61 : a.tmps.getD 61 undef = (.pointer (some ⟨x, 0, none⟩) : Value) := (sk_val hk 2 (by kernel_rfl) rfl rfl).trans ((hk.1 2 (by kernel_rfl)).1)
            have f61 := gd e61
            exact ro_pure (v := .pointer (some ⟨x, 1, none⟩)) (wanted_none rfl) (by simp [execOp, Act.eval, e61, f61, go_sem]) (sp_same (by kernel_rfl) hl hs hS (show (.pointer (some ⟨x, 1, none⟩) : Value) = _ from rfl)) trivial
          refine SSteps.cons (fun a w' vs σ hS hl hs hk => ?_) ?_
          · have e62 : a.tmps.getD 62 undef = (.pointer (some ⟨x, 1, none⟩) : Value) := (sk_val hk 3 (by kernel_rfl) rfl rfl).trans ((hk.1 3 (by kernel_rfl)).1)
            have f62 := gd e62
            have hx := (hS.base.cell (p := ⟨x, 1, none⟩) hzx).trans (hxx 1)
            exact ro_pure (v := .slice (some ⟨gx, ox, none⟩) L.length cx) (wanted_none rfl) (by simp [execOp, Act.eval, e62, f62, go_sem, hx]) (sp_same (by kernel_rfl) hl hs hS (show (.slice (some ⟨gx, ox, none⟩) L.length cx : Value) = _ from rfl)) trivial
          refine SSteps.cons (fun a w' vs σ hS hl hs hk => ?_) ?_
          · have e7 : a.tmps.getD 7 undef = (.int .i64 ↑i : Value) := (sk_old hk 7 (by kernel_rfl)).trans rfl
            have f7 := gd e7
            exact ro_pure (v := .int .i64 ↑i) (wanted_none rfl) (by simp [execOp, Act.eval, e7, f7, go_sem]) (sp_same (by kernel_rfl) hl hs hS (show (.int .i64 ↑i : Value) = _ from rfl)) trivial
          refine SSteps.cons (fun a w' vs σ hS hl hs hk => ?_) ?_
          · have e63 : a.tmps.getD 63 undef = (.slice (some ⟨gx, ox, none⟩) L.length cx : Value) := (sk_val hk 4 (by kernel_rfl) rfl rfl).trans ((hk.1 4 (by kernel_rfl)).1)
            have f63 := gd e63
            have e64 : a.tmps.getD 64 undef = (.int .i64 ↑i : Value) := (sk_val hk 5 (by kernel_rfl) rfl rfl).trans ((hk.1 5 (by kernel_rfl)).1)
            have f64 := gd e64
            exact ro_pure (v := .pointer (some ⟨gx, ox + i * 2, none⟩)) (wanted_none rfl) (by simp [execOp, Act.eval, e63, f63, e64, f64, go_sem, hb0, hb1]) (sp_same (by kernel_rfl) hl hs hS (show (.pointer (some ⟨gx, ox + i * 2, none⟩) : Value) = _ from rfl)) trivial
          refine SSteps.cons (fun a w' vs σ hS hl hs hk => ?_) ?_
          · have e65 : a.tmps.getD 65 undef = (.pointer (some ⟨gx, ox + i * 2, none⟩) : Value) := (sk_val hk 6 (by kernel_rfl) rfl rfl).trans ((hk.1 6 (by kernel_rfl)).1)
            have f65 := gd e65
            have hx := (hS.base.cell (p := ⟨gx, ox + i * 2, none⟩) hzg).trans hc1
            have hy := (hS.base.cell (p := ⟨gx, ox + i * 2 + 1, none⟩) hzg).trans hc2
            exact ro_pure (v := .agg #[.slice Ar l.1.length cr, .bool l.2]) (wanted_none rfl) (by simp [execOp, Act.eval, e65, f65, go_sem, hx, hy]) (sp_same (by kernel_rfl) hl hs hS (show (.agg #[.slice Ar l.1.length cr, .bool l.2] : Value) = _ from rfl)) trivial
          refine SSteps.cons (fun a w' vs σ hS hl hs hk => ?_) ?_
          · have e59 : a.tmps.getD 59 undef = (.agg #[.slice A8 l.1.length c8, .bool l.2] : Value) := (sk_val hk 0 (by kernel_rfl) rfl rfl).trans ((hk.1 0 (by kernel_rfl)).1)
            have f59 := gd e59
            have e66 : a.tmps.getD 66 undef = (.agg #[.slice Ar l.1.length cr, .bool l.2] : Value) := (sk_val hk 7 (by kernel_rfl) rfl rfl).trans ((hk.1 7 (by kernel_rfl)).1)
            have f66 := gd e66
            have hcon := r14SameLine_any A8 Ar c8 cr l.1 l.1 l.2 l.2 w' (HA8.out.bel hS.base) (HAR.out.bel hS.base) HLN.out HLN.out
            rw [show eqL l.1 l.2 l.1 l.2 = true by rw [eqL_line]; simp] at hcon
            exact ro_call (f := 41) (wanted_none rfl) rfl (by simp only [List.map_toArray, List.map_cons, List.map_nil, Act.eval, e59, e66] <;> rfl) (fun _ _ => by kernel_rfl) (hcon.mono fun e w2 ⟨h1, h2⟩ => ⟨_, h1, sp_same (by kernel_rfl) hl hs (hS.bel h2) rfl, trivial⟩)
          refine SSteps.cons (fun a w' vs σ hS hl hs hk => ?_) ?_
          · have e67 : a.tmps.getD 67 undef = (.bool true : Value) := (sk_val hk 8 (by kernel_rfl) rfl rfl).trans ((hk.1 8 (by kernel_rfl)).1)
            have f67 := gd e67
            exact ro_pure (v := .bool false) (wanted_none rfl) (by simp [execOp, Act.eval, e67, f67, go_sem]) (sp_same (by kernel_rfl) hl hs hS (show (.bool false : Value) = _ from rfl)) trivial
          refine SSteps.cons (fun a w' vs σ hS hl hs hk => ?_) ?_
          · have e68 : a.tmps.getD 68 undef = (.bool false : Value) := (sk_val hk 9 (by kernel_rfl) rfl rfl).trans ((hk.1 9 (by kernel_rfl)).1)
            have f68 := gd e68
            exact ro_pure (v := .bool false) (wanted_none rfl) (by simp [execOp, Act.eval, e68, f68, go_sem]) (sp_same (by kernel_rfl) hl hs hS (show (.bool false : Value) = _ from rfl)) trivial
          refine SSteps.cons (fun a w' vs σ hS hl hs hk => ?_) ?_
          · have e9 : a.tmps.getD 9 undef = (.int .i64 0 : Value) := (sk_old hk 9 (by kernel_rfl)).trans rfl
            have f9 := gd e9
            exact ro_pure (v := .int .i64 0) (wanted_yes rfl rfl rfl (show _ = _ from (sk_val hk 10 (by kernel_rfl) rfl rfl).trans ((hk.1 10 (by kernel_rfl)).1))) (by simp [execOp, Act.eval, e9, f9, go_sem]) (sp_same (by kernel_rfl) hl hs hS (show (.int .i64 0 : Value) = _ from rfl)) trivial
          refine SSteps.cons (fun a w' vs σ hS hl hs hk => ?_) ?_
          · have e70 : a.tmps.getD 70 undef = (.int .i64 0 : Value) := (sk_val hk 11 (by kernel_rfl) rfl rfl).trans ((hk.1 11 (by kernel_rfl)).1)
            have f70 := gd e70
            exact ro_pure (v := .bool false) (wanted_yes rfl rfl rfl (show _ = _ from (sk_val hk 10 (by kernel_rfl) rfl rfl).trans ((hk.1 10 (by kernel_rfl)).1))) (by simp [execOp, Act.eval, e70, f70, go_sem]) (sp_same (by kernel_rfl) hl hs hS (show (.bool false : Value) = _ from rfl)) trivial
          refine SSteps.cons (fun a w' vs σ hS hl hs hk => ?_) ?_
          · have e69 : a.tmps.getD 69 undef = (.bool false : Value) := (sk_val hk 10 (by kernel_rfl) rfl rfl).trans ((hk.1 10 (by kernel_rfl)).1)
            have f69 := gd e69
            have e71 : a.tmps.getD 71 undef = (.bool false : Value) := (sk_val hk 12 (by kernel_rfl) rfl rfl).trans ((hk.1 12 (by kernel_rfl)).1)
            have f71 := gd e71
            exact ro_pure (v := .bool false) (wanted_none rfl) (by simp [execOp, Act.eval, e69, f69, e71, f71, go_sem]) (sp_same (by kernel_rfl) hl hs hS (show (.bool false : Value) = _ from rfl)) trivial
          refine SSteps.cons (fun a w' vs σ hS hl hs hk => ?_) ?_
          · have e72 : a.tmps.getD 72 undef = (.bool false : Value) := (sk_val hk 13 (by kernel_rfl) rfl rfl).trans ((hk.1 13 (by kernel_rfl)).1)
            have f72 := gd e72
            exact ro_pure (v := .bool false) (wanted_none rfl) (by simp [execOp, Act.eval, e72, f72, go_sem]) (sp_same (by kernel_rfl) hl hs hS (show (.bool false : Value) = _ from rfl)) trivial
          refine SSteps.cons (fun a w' vs σ hS hl hs hk => ?_) ?_
          · have e8 : a.tmps.getD 8 undef = (.pointer (some ⟨b8, 0, none⟩) : Value) := (sk_old hk 8 (by kernel_rfl)).trans rfl
            have f8 := gd e8
            have hx := (hS.base.cell (p := ⟨b8, 0, none⟩) hz8).trans (hx8 0)
            have hy := (hS.base.cell (p := ⟨b8, 1, none⟩) hz8).trans (hx8 1)
            exact ro_pure (v := .agg #[.slice A8 l.1.length c8, .bool l.2]) (wanted_yes rfl rfl rfl (show _ = _ from (sk_val hk 14 (by kernel_rfl) rfl rfl).trans ((hk.1 14 (by kernel_rfl)).1))) (by simp [execOp, Act.eval, e8, f8, go_sem, hx, hy]) (sp_same (by kernel_rfl) hl hs hS (show (.agg #[.slice A8 l.1.length c8, .bool l.2] : Value) = _ from rfl)) trivial
          refine SSteps.cons (fun a w' vs σ hS hl hs hk => ?_) ?_
          · have e74 : a.tmps.getD 74 undef = (.agg #[.slice A8 l.1.length c8, .bool l.2] : Value) := (sk_val hk 15 (by kernel_rfl) rfl rfl).trans ((hk.1 15 (by kernel_rfl)).1)
            have f74 := gd e74
            exact ro_call (f := 22) (wanted_yes rfl rfl rfl (show _ = _ from (sk_val hk 14 (by kernel_rfl) rfl rfl).trans ((hk.1 14 (by kernel_rfl)).1))) rfl (by simp only [List.map_toArray, List.map_cons, List.map_nil, Act.eval, e74] <;> rfl) (fun _ _ => by kernel_rfl) ((lvalid_is HV1.out A8 c8 l.2 w' (HTW.out.bel hS.base) (HA8.out.bel hS.base) HLN.out).mono fun e w2 ⟨h1, h2⟩ => ⟨_, h1, sp_same (by kernel_rfl) hl hs (hS.bel h2) rfl, trivial⟩)
          refine SSteps.cons (fun a w' vs σ hS hl hs hk => ?_) ?_
          · have e75 : a.tmps.getD 75 undef = (.bool true : Value) := (sk_val hk 16 (by kernel_rfl) rfl rfl).trans ((hk.1 16 (by kernel_rfl)).1)
            have f75 := gd e75
            exact ro_pure (v := .bool false) (wanted_yes rfl rfl rfl (show _ = _ from (sk_val hk 14 (by kernel_rfl) rfl rfl).trans ((hk.1 14 (by kernel_rfl)).1))) (by simp [execOp, Act.eval, e75, f75, go_sem]) (sp_same (by kernel_rfl) hl hs hS (show (.bool false : Value) = _ from rfl)) trivial
          refine SSteps.cons (fun a w' vs σ hS hl hs hk => ?_) ?_
          · have e73 : a.tmps.getD 73 undef = (.bool false : Value) := (sk_val hk 14 (by kernel_rfl) rfl rfl).trans ((hk.1 14 (by kernel_rfl)).1)
            have f73 := gd e73
            have e76 : a.tmps.getD 76 undef = (.bool false : Value) := (sk_val hk 17 (by kernel_rfl) rfl rfl).trans ((hk.1 17 (by kernel_rfl)).1)
            have f76 := gd e76
            exact ro_pure (v := .bool false) (wanted_none rfl) (by simp [execOp, Act.eval, e73, f73, e76, f76, go_sem]) (sp_same (by kernel_rfl) hl hs hS (show (.bool false : Value) = _ from rfl)) trivial
          exact SSteps.nil
        · intro vs w' hS hv
          have q0 := (show vs 0 = (.agg #[.slice A8 l.1.length c8, .bool l.2] : Value) from hv 0 (by decide))
          have q1 := (show vs 1 = (.pointer (some ⟨x, 0, none⟩) : Value) from hv 1 (by decide))
          have q2 := (show vs 2 = (.pointer (some ⟨x, 0, none⟩) : Value) from hv 2 (by decide))
          have q3 := (show vs 3 = (.pointer (some ⟨x, 1, none⟩) : Value) from hv 3 (by decide))
          have q4 := (show vs 4 = (.slice (some ⟨gx, ox, none⟩) L.length cx : Value) from hv 4 (by decide))
          have q5 := (show vs 5 = (.int .i64 ↑i : Value) from hv 5 (by decide))
          have q6 := (show vs 6 = (.pointer (some ⟨gx, ox + i * 2, none⟩) : Value) from hv 6 (by decide))
          have q7 := (show vs 7 = (.agg #[.slice Ar l.1.length cr, .bool l.2] : Value) from hv 7 (by decide))
          have q8 := (show vs 8 = (.bool true : Value) from hv 8 (by decide))
          have q9 := (show vs 9 = (.bool false : Value) from hv 9 (by decide))
          have q10 := (show vs 10 = (.bool false : Value) from hv 10 (by decide))
          have q11 := (show vs 11 = (.int .i64 0 : Value) from hv 11 (by decide))
          have q12 := (show vs 12 = (.bool false : Value) from hv 12 (by decide))
          have q13 := (show vs 13 = (.bool false : Value) from hv 13 (by decide))
          have q14 := (show vs 14 = (.bool false : Value) from hv 14 (by decide))
          have q15 := (show vs 15 = (.agg #[.slice A8 l.1.length c8, .bool l.2] : Value) from hv 15 (by decide))
          have q16 := (show vs 16 = (.bool true : Value) from hv 16 (by decide))
          have q17 := (show vs 17 = (.bool false : Value) from hv 17 (by decide))
          have q18 := (show vs 18 = (.bool false : Value) from hv 18 (by decide))
          have S2 := Lib.hid hS
          simp only [putL, Act.put, Nat.zero_add, Nat.reduceAdd, List.setIfInBounds_toArray, List.set_cons_succ, List.set_cons_zero, q0, q1, q2, q3, q4, q5, q6, q7, q8, q9, q10, q11, q12, q13, q14, q15, q16, q17, q18]
          clear hS hv q0 q1 q2 q3 q4 q5 q6 q7 q8 q9 q10 q11 q12 q13 q14 q15 q16 q17 q18
          have S3 := Lib.hid (SW.out.bel S2.out.base)
          clear hx8 hf8 hz8 HA8 hxx hfx hzx hzg hc1 hc2 HAR HTW SW S2
          have SN := Lib.hid (show Objs w0 _ (.box b8 39 #[.slice A8 cols c8, .bool l.2] :: .cells (.slice A8 cols c8) l.1 :: _) from by have h := S3.out; rw [HLC.out] at h; exact h)
          simp only [HLC.out]
          clear S3
          go_wp2_with fail
          go_loopw [10, 11, 12] (fun vk _ _ wr => ∃ (k : Nat) (mc : List Cell) (LL : List Ln), k ≤ cols ∧ vk = .int .i64 k ∧ Hid (mc.length = cols) ∧ Hid (LL.length = L.length ∧ Rect cols LL) ∧ Objs w0 wr (.box b8 39 #[.slice A8 cols c8, .bool l.2] :: .cells (.slice A8 cols c8) mc :: .lines (.slice A1 L.length c1) LL :: os)) (fun vk _ _ _ => cols - (intOf vk).toNat)
          case atStart => exact ⟨0, l.1, LL, Nat.zero_le _, rfl, HLC, HLL, SN.out⟩
          case round =>
            clear SN HLL
            obtain ⟨kk, mc, LL, hkk, rfl, HMC, HLL, hS⟩ := hrel
            by_cases hlt3 : kk < cols
            case neg =>
              obtain ⟨hx8, hf8, hz8⟩ := (hS.box (k := 0) rfl).facts
              have S := Lib.hid hS
              clear hS
              go_wp2_with fail
              go_roundw
              case rel => exact ⟨i + 1, LL, by omega, by go_num, HLL, S.out.tail.tail⟩
              case measure => simp [intOf]; omega
            obtain ⟨xk, hxk⟩ := get_of (show kk < l.1.length by rw [HLC.out]; exact hlt3)
            have HXK := Lib.hid hxk
            obtain ⟨hx8, hf8, hz8⟩ := (hS.box (k := 0) rfl).facts
            have S := Lib.hid hS
            have hk0 : (0 : Int) ≤ (kk : Int) := by omega
            have hk1 : (kk : Int) < (cols : Int) := by omega
            clear hS hxk
            go_wp2_with fail
            refine (Cell_yes S.out (k := k + 3) HK.out hc hlt3 HL.out HXK.out).mono ?_
            rintro e w1 ⟨rfl, hS⟩
            have S1 := Lib.hid (hS.alloc1 (c1 := cv xk) (t1 := 71))
            clear hS hx8 hf8 hz8 S
            go_upto_region 19 with (fail)
            refine at_objsC S1.out (fun W hW => ?_)
            have hc11 := (hW.box (k := 0) rfl).cellAt
            have hz11 := (hW.box (k := 0) rfl).lt
            obtain ⟨Ax, cx, hBx, hmx, hrx⟩ := hW.gridRd (k := j + 4) HX.out
            obtain ⟨hxx, hfx, hzx⟩ := hBx.facts
            obtain ⟨gx, ox, Ar, cr, rfl, hzg, hc1, hc2, hrr⟩ := hrx.at_ HL.out
            obtain ⟨gr, orr, rfl, hzr, hrg⟩ := hrr.at_ (show kk < l.1.length by rw [HLC.out]; exact hlt3)
            have hce := elem_cell hrg (show kk < l.1.length by rw [HLC.out]; exact hlt3)
            rw [show l.1[kk]'(by rw [HLC.out]; exact hlt3) = xk by have := HXK.out; rw [List.getElem?_eq_getElem (by rw [HLC.out]; exact hlt3)] at this; simpa using this, ] at hce
            rw [HLC.out] at hc1
            have SW := Lib.hid hW
            have hb0 : (0 : Int) ≤ (i : Int) := by omega
            have hb1 : (i : Int) < (L.length : Int) := by omega
            clear hW hBx hmx hrx hrr hrg S1
            generalize w1.heap.size = b11 at hc11 hz11 SW ⊢
            refine wp_region_stage (w0 := W) (os := []) (by kernel_rfl) (by kernel_rfl) (by kernel_rfl) [] [[], [], [], [], [], [], [], [], [], [], [], [], [], [], [], [], []] [] (fun opn u => match opn with | 0 => u = (.agg (cv xk) : Value) | 1 => u = (.pointer (some ⟨x, 0, none⟩) : Value) | 2 => u = (.pointer (some ⟨x, 0, none⟩) : Value) | 3 => u = (.pointer (some ⟨x, 1, none⟩) : Value) | 4 => u = (.slice (some ⟨gx, ox, none⟩) L.length cx : Value) | 5 => u = (.int .i64 ↑i : Value) | 6 => u = (.pointer (some ⟨gx, ox + i * 2, none⟩) : Value) | 7 => u = (.pointer (some ⟨gx, ox + i * 2, none⟩) : Value) | 8 => u = (.slice (some ⟨gr, orr, none⟩) cols cr : Value) | 9 => u = (.int .i64 ↑kk : Value) | 10 => u = (.pointer (some ⟨gr, orr + kk * 16, none⟩) : Value) | 11 => u = (.agg (cv xk) : Value) | 12 => u = (.bool false : Value) | 13 => u = (.bool false : Value) | 14 => u = (.int .i64 0 : Value) | 15 => u = (.bool false : Value) | 16 => u = (.bool false : Value) | _ => True) (fun vs => []) (by kernel_rfl) (fun vs => by rfl) (objs_start W) ?_ ?_
            · refine SSteps.cons (fun a w' vs σ hS hl hs hk => ?_) ?_
              · have e11 : a.tmps.getD 11 undef = (.pointer (some ⟨b11, 0, none⟩) : Value) := (sk_old hk 11 (by kernel_rfl)).trans rfl
                have f11 := gd e11
                have hx := (cellAt_below hS.base hz11 0).trans hc11
                exact ro_pure (v := .agg (cv xk)) (wanted_none rfl) (by simp [execOp, Act.eval, e11, f11, go_sem, hx]) (sp_same (by kernel_rfl) hl hs hS (show (.agg (cv xk) : Value) = _ from rfl)) trivial
              refine SSteps.cons (fun a w' vs σ hS hl hs hk => ?_) ?_
              · have e1 : a.tmps.getD 1 undef = (.pointer (some ⟨x, 0, none⟩) : Value) := (sk_old hk 1 (by kernel_rfl)).trans rfl
                have f1 := gd e1
                exact ro_pure (v := .pointer (some ⟨x, 0, none⟩)) (wanted_none rfl) (by simp [execOp, Act.eval, e1, f1, go_sem]) (sp_same (by kernel_rfl) hl hs hS (show (.pointer (some ⟨x, 0, none⟩) : Value) = _ from rfl)) trivial
              refine SSteps.cons (fun a w' vs σ hS hl hs hk => ?_) ?_
              · have e93 : a.tmps.getD 93 undef = (.pointer (some ⟨x, 0, none⟩) : Value) := (sk_val hk 1 (by kernel_rfl) rfl rfl).trans ((hk.1 1 (by kernel_rfl)).1)
                have f93 := gd e93
                exact ro_pure (v := .pointer (some ⟨x, 0, none⟩)) (wanted_none rfl) (by simp [execOp, Act.eval, e93, f93, go_sem]) (sp_same (by kernel_rfl) hl hs hS (show (.pointer (some ⟨x, 0, none⟩) : Value) = _ from rfl)) trivial
              refine SSteps.cons (fun a w' vs σ hS hl hs hk => ?_) ?_
              · have e94 : a.tmps.getD 94 undef = (.pointer (some ⟨x, 0, none⟩) : Value) := (sk_val hk 2 (by kernel_rfl) rfl rfl).trans ((hk.1 2 (by kernel_rfl)).1)
                have f94 := gd e94
                exact ro_pure (v := .pointer (some ⟨x, 1, none⟩)) (wanted_none rfl) (by simp [execOp, Act.eval, e94, f94, go_sem]) (sp_same (by kernel_rfl) hl hs hS (show (.pointer (some ⟨x, 1, none⟩) : Value) = _ from rfl)) trivial
              refine SSteps.cons (fun a w' vs σ hS hl hs hk => ?_) ?_
              · have e95 : a.tmps.getD 95 undef = (.pointer (some ⟨x, 1, none⟩) : Value) := (sk_val hk 3 (by kernel_rfl) rfl rfl).trans ((hk.1 3 (by kernel_rfl)).1)
                have f95 := gd e95
                have hx := (hS.base.cell (p := ⟨x, 1, none⟩) hzx).trans (hxx 1)
                exact ro_pure (v := .slice (some ⟨gx, ox, none⟩) L.length cx) (wanted_none rfl) (by simp [execOp, Act.eval, e95, f95, go_sem, hx]) (sp_same (by kernel_rfl) hl hs hS (show (.slice (some ⟨gx, ox, none⟩) L.length cx : Value) = _ from rfl)) trivial
              refine SSteps.cons (fun a w' vs σ hS hl hs hk => ?_) ?_
              · have e7 : a.tmps.getD 7 undef = (.int .i64 ↑i : Value) := (sk_old hk 7 (by kernel_rfl)).trans rfl
                have f7 := gd e7
                exact ro_pure (v := .int .i64 ↑i) (wanted_none rfl) (by simp [execOp, Act.eval, e7, f7, go_sem]) (sp_same (by kernel_rfl) hl hs hS (show (.int .i64 ↑i : Value) = _ from rfl)) trivial
              refine SSteps.cons (fun a w' vs σ hS hl hs hk => ?_) ?_
              · have e96 : a.tmps.getD 96 undef = (.slice (some ⟨gx, ox, none⟩) L.length cx : Value) := (sk_val hk 4 (by kernel_rfl) rfl rfl).trans ((hk.1 4 (by kernel_rfl)).1)
                have f96 := gd e96
                have e97 : a.tmps.getD 97 undef = (.int .i64 ↑i : Value) := (sk_val hk 5 (by kernel_rfl) rfl rfl).trans ((hk.1 5 (by kernel_rfl)).1)
                have f97 := gd e97
                exact ro_pure (v := .pointer (some ⟨gx, ox + i * 2, none⟩)) (wanted_none rfl) (by simp [execOp, Act.eval, e96, f96, e97, f97, go_sem, hb0, hb1]) (sp_same (by kernel_rfl) hl hs hS (show (.pointer (some ⟨gx, ox + i * 2, none⟩) : Value) = _ from rfl)) trivial
              refine SSteps.cons (fun a w' vs σ hS hl hs hk => ?_) ?_
              · have e98 : a.tmps.getD 98 undef = (.pointer (some ⟨gx, ox + i * 2, none⟩) : Value) := (sk_val hk 6 (by kernel_rfl) rfl rfl).trans ((hk.1 6 (by kernel_rfl)).1)
                have f98 := gd e98
                exact ro_pure (v := .pointer (some ⟨gx, ox + i * 2, none⟩)) (wanted_none rfl) (by simp [execOp, Act.eval, e98, f98, go_sem]) (sp_same (by kernel_rfl) hl hs hS (show (.pointer (some ⟨gx, ox + i * 2, none⟩) : Value) = _ from rfl)) trivial
              refine SSteps.cons (fun a w' vs σ hS hl hs hk => ?_) ?_
              · have e99 : a.tmps.getD 99 undef = (.pointer (some ⟨gx, ox + i * 2, none⟩) : Value) := (sk_val hk 7 (by kernel_rfl) rfl rfl).trans ((hk.1 7 (by kernel_rfl)).1)
                have f99 := gd e99
                have hx := (hS.base.cell (p := ⟨gx, ox + i * 2, none⟩) hzg).trans hc1
                exact ro_pure (v := .slice (some ⟨gr, orr, none⟩) cols cr) (wanted_none rfl) (by simp [execOp, Act.eval, e99, f99, go_sem, hx]) (sp_same (by kernel_rfl) hl hs hS (show (.slice (some ⟨gr, orr, none⟩) cols cr : Value) = _ from rfl)) trivial
              refine SSteps.cons (fun a w' vs σ hS hl hs hk => ?_) ?_
              · have e10 : a.tmps.getD 10 undef = (.int .i64 ↑kk : Value) := (sk_old hk 10 (by kernel_rfl)).trans rfl
                have f10 := gd e10
                exact ro_pure (v := .int .i64 ↑kk) (wanted_none rfl) (by simp [execOp, Act.eval, e10, f10, go_sem]) (sp_same (by kernel_rfl) hl hs hS (show (.int .i64 ↑kk : Value) = _ from rfl)) trivial
              refine SSteps.cons (fun a w' vs σ hS hl hs hk => ?_) ?_
              · have e100 : a.tmps.getD 100 undef = (.slice (some ⟨gr, orr, none⟩) cols cr : Value) := (sk_val hk 8 (by kernel_rfl) rfl rfl).trans ((hk.1 8 (by kernel_rfl)).1)
                have f100 := gd e100
                have e101 : a.tmps.getD 101 undef = (.int .i64 ↑kk : Value) := (sk_val hk 9 (by kernel_rfl) rfl rfl).trans ((hk.1 9 (by kernel_rfl)).1)
                have f101 := gd e101
                exact ro_pure (v := .pointer (some ⟨gr, orr + kk * 16, none⟩)) (wanted_none rfl) (by simp [execOp, Act.eval, e100, f100, e101, f101, go_sem, hk0, hk1]) (sp_same (by kernel_rfl) hl hs hS (show (.pointer (some ⟨gr, orr + kk * 16, none⟩) : Value) = _ from rfl)) trivial
              refine SSteps.cons (fun a w' vs σ hS hl hs hk => ?_) ?_
              · have e102 : a.tmps.getD 102 undef = (.pointer (some ⟨gr, orr + kk * 16, none⟩) : Value) := (sk_val hk 10 (by kernel_rfl) rfl rfl).trans ((hk.1 10 (by kernel_rfl)).1)
                have f102 := gd e102
                have hx := (cellAt_below hS.base hzr (orr + kk * 16)).trans hce
                exact ro_pure (v := .agg (cv xk)) (wanted_none rfl) (by simp [execOp, Act.eval, e102, f102, go_sem, hx]) (sp_same (by kernel_rfl) hl hs hS (show (.agg (cv xk) : Value) = _ from rfl)) trivial
              refine SSteps.cons (fun a w' vs σ hS hl hs hk => ?_) ?_
              · have e92 : a.tmps.getD 92 undef = (.agg (cv xk) : Value) := (sk_val hk 0 (by kernel_rfl) rfl rfl).trans ((hk.1 0 (by kernel_rfl)).1)
                have f92 := gd e92
                have e103 : a.tmps.getD 103 undef = (.agg (cv xk) : Value) := (sk_val hk 11 (by kernel_rfl) rfl rfl).trans ((hk.1 11 (by kernel_rfl)).1)
                have f103 := gd e103
                exact ro_pure (v := .bool false) (wanted_none rfl) (by simp [execOp, Act.eval, e92, f92, e103, f103, go_sem]) (sp_same (by kernel_rfl) hl hs hS (show (.bool false : Value) = _ from rfl)) trivial
              refine SSteps.cons (fun a w' vs σ hS hl hs hk => ?_) ?_
              · have e104 : a.tmps.getD 104 undef = (.bool false : Value) := (sk_val hk 12 (by kernel_rfl) rfl rfl).trans ((hk.1 12 (by kernel_rfl)).1)
                have f104 := gd e104
                exact ro_pure (v := .bool false) (wanted_none rfl) (by simp [execOp, Act.eval, e104, f104, go_sem]) (sp_same (by kernel_rfl) hl hs hS (show (.bool false : Value) = _ from rfl)) trivial
              refine SSteps.cons (fun a w' vs σ hS hl hs hk => ?_) ?_
              · have e12 : a.tmps.getD 12 undef = (.int .i64 0 : Value) := (sk_old hk 12 (by kernel_rfl)).trans rfl
                have f12 := gd e12
                exact ro_pure (v := .int .i64 0) (wanted_yes rfl rfl rfl (show _ = _ from (sk_val hk 13 (by kernel_rfl) rfl rfl).trans ((hk.1 13 (by kernel_rfl)).1))) (by simp [execOp, Act.eval, e12, f12, go_sem]) (sp_same (by kernel_rfl) hl hs hS (show (.int .i64 0 : Value) = _ from rfl)) trivial
              refine SSteps.cons (fun a w' vs σ hS hl hs hk => ?_) ?_
              · have e106 : a.tmps.getD 106 undef = (.int .i64 0 : Value) := (sk_val hk 14 (by kernel_rfl) rfl rfl).trans ((hk.1 14 (by kernel_rfl)).1)
                have f106 := gd e106
                exact ro_pure (v := .bool false) (wanted_yes rfl rfl rfl (show _ = _ from (sk_val hk 13 (by kernel_rfl) rfl rfl).trans ((hk.1 13 (by kernel_rfl)).1))) (by simp [execOp, Act.eval, e106, f106, go_sem]) (sp_same (by kernel_rfl) hl hs hS (show (.bool false : Value) = _ from rfl)) trivial
              refine SSteps.cons (fun a w' vs σ hS hl hs hk => ?_) ?_
              · have e105 : a.tmps.getD 105 undef = (.bool false : Value) := (sk_val hk 13 (by kernel_rfl) rfl rfl).trans ((hk.1 13 (by kernel_rfl)).1)
                have f105 := gd e105
                have e107 : a.tmps.getD 107 undef = (.bool false : Value) := (sk_val hk 15 (by kernel_rfl) rfl rfl).trans ((hk.1 15 (by kernel_rfl)).1)
                have f107 := gd e107
                exact ro_pure (v := .bool false) (wanted_none rfl) (by simp [execOp, Act.eval, e105, f105, e107, f107, go_sem]) (sp_same (by kernel_rfl) hl hs hS (show (.bool false : Value) = _ from rfl)) trivial
              exact SSteps.nil
            · intro vs w' hS hv
              have q0 := (show vs 0 = (.agg (cv xk) : Value) from hv 0 (by decide))
              have q1 := (show vs 1 = (.pointer (some ⟨x, 0, none⟩) : Value) from hv 1 (by decide))
              have q2 := (show vs 2 = (.pointer (some ⟨x, 0, none⟩) : Value) from hv 2 (by decide))
              have q3 := (show vs 3 = (.pointer (some ⟨x, 1, none⟩) : Value) from hv 3 (by decide))
              have q4 := (show vs 4 = (.slice (some ⟨gx, ox, none⟩) L.length cx : Value) from hv 4 (by decide))
              have q5 := (show vs 5 = (.int .i64 ↑i : Value) from hv 5 (by decide))
              have q6 := (show vs 6 = (.pointer (some ⟨gx, ox + i * 2, none⟩) : Value) from hv 6 (by decide))
              have q7 := (show vs 7 = (.pointer (some ⟨gx, ox + i * 2, none⟩) : Value) from hv 7 (by decide))
              have q8 := (show vs 8 = (.slice (some ⟨gr, orr, none⟩) cols cr : Value) from hv 8 (by decide))
              have q9 := (show vs 9 = (.int .i64 ↑kk : Value) from hv 9 (by decide))
              have q10 := (show vs 10 = (.pointer (some ⟨gr, orr + kk * 16, none⟩) : Value) from hv 10 (by decide))
              have q11 := (show vs 11 = (.agg (cv xk) : Value) from hv 11 (by decide))
              have q12 := (show vs 12 = (.bool false : Value) from hv 12 (by decide))
              have q13 := (show vs 13 = (.bool false : Value) from hv 13 (by decide))
              have q14 := (show vs 14 = (.int .i64 0 : Value) from hv 14 (by decide))
              have q15 := (show vs 15 = (.bool false : Value) from hv 15 (by decide))
              have q16 := (show vs 16 = (.bool false : Value) from hv 16 (by decide))
              have S2 := Lib.hid hS
              simp only [putL, Act.put, Nat.zero_add, Nat.reduceAdd, List.setIfInBounds_toArray, List.set_cons_succ, List.set_cons_zero, q0, q1, q2, q3, q4, q5, q6, q7, q8, q9, q10, q11, q12, q13, q14, q15, q16]
              clear hS hv q0 q1 q2 q3 q4 q5 q6 q7 q8 q9 q10 q11 q12 q13 q14 q15 q16
              have S3 := Lib.hid (SW.out.bel S2.out.base)
              clear hc11 hz11 hxx hfx hzx hzg hc1 hc2 hzr hce SW S2
              obtain ⟨li, hli⟩ := get_of (show i < LL.length by rw [HLL.out.1]; exact hlt2)
              have HRC := Lib.hid (show li.1.length = cols from HLL.out.2.at_ hli)
              have HLI := Lib.hid hli
              obtain ⟨xm, hxm⟩ := get_of (show kk < mc.length by rw [HMC.out]; exact hlt3)
              obtain ⟨xr, hxr⟩ := get_of (show kk < li.1.length by rw [HRC.out]; exact hlt3)
              obtain ⟨b, hO⟩ := S3.out.openRow (k := 3) rfl hli
              obtain ⟨gv, cv', e, -, -, -, -, -, -, -⟩ := hO.linesxRd (k := 4) rfl
              simp only [Value.slice.injEq] at e
              obtain ⟨rfl, -, rfl⟩ := e
              obtain ⟨gm, cm, e, -, -, -⟩ := hO.ownAt (k := 3) (j := kk) rfl hxm
              simp only [Value.slice.injEq] at e
              obtain ⟨rfl, -, rfl⟩ := e
              obtain ⟨gb, cb, rfl, -, -, -⟩ := hO.ownAt (k := 0) (j := kk) rfl hxr
              rw [HRC.out] at hO
              have S5 := Lib.hid (show Objs w0 _ (.box b8 39 #[.slice (some ⟨gm, 0, none⟩) cols c8, .bool l.2] :: .cells (.slice (some ⟨gm, 0, none⟩) cols c8) mc :: .cells (.slice (some ⟨gb, 0, none⟩) cols cb) li.1 :: .linesx (.slice (some ⟨gv, 0, none⟩) L.length c1) LL i (.slice (some ⟨gb, 0, none⟩) cols cb) :: os) from (Objs.pick (σ := [_, _, _, _, _]) (os := os) hO [some 2, some 3, some 0, some 4] (by decide) rfl))
              clear hO S3 hli hxm hxr
              go_upto_region 21 with (fail)
              refine wp_region_stage (w0 := w0) (os := os) (by kernel_rfl) (by kernel_rfl) (by kernel_rfl) [(1, 11, [], fun vs => .cells (.slice (some ⟨gm, 0, none⟩) cols c8) (set9 kk mc)), (2, 14, [], fun vs => .cells (.slice (some ⟨gb, 0, none⟩) cols cb) (set9 kk li.1))] [[], [0], [], [], [], [], [], [3], [], [], [], [1], [], [], [2]] [.box b8 39 #[.slice (some ⟨gm, 0, none⟩) cols c8, .bool l.2], .cells (.slice (some ⟨gm, 0, none⟩) cols c8) mc, .cells (.slice (some ⟨gb, 0, none⟩) cols cb) li.1, .linesx (.slice (some ⟨gv, 0, none⟩) L.length c1) LL i (.slice (some ⟨gb, 0, none⟩) cols cb)] (fun opn u => match opn with | 0 => u = (.pointer (some ⟨b8, 0, none⟩) : Value) | 1 => u = (.slice (some ⟨gm, 0, none⟩) cols c8 : Value) | 2 => u = (.int .i64 ↑kk : Value) | 3 => u = (.slice (some ⟨gv, 0, none⟩) L.length c1 : Value) | 4 => u = (.int .i64 ↑i : Value) | 5 => u = (.pointer (some ⟨gv, i * 2, none⟩) : Value) | 6 => u = (.pointer (some ⟨gv, i * 2, none⟩) : Value) | 7 => u = (.slice (some ⟨gb, 0, none⟩) cols cb : Value) | 8 => u = (.int .i64 ↑kk : Value) | 9 => u = (.pointer (some ⟨gm, kk * 16, none⟩) : Value) | 10 => u = (.pointer (some ⟨gm, kk * 16 + 4, none⟩) : Value) | 11 => True | 12 => u = (.pointer (some ⟨gb, kk * 16, none⟩) : Value) | 13 => u = (.pointer (some ⟨gb, kk * 16 + 4, none⟩) : Value) | 14 => True | _ => True) (fun vs => [.box b8 39 #[.slice (some ⟨gm, 0, none⟩) cols c8, .bool l.2], .cells (.slice (some ⟨gm, 0, none⟩) cols c8) (set9 kk mc), .cells (.slice (some ⟨gb, 0, none⟩) cols cb) (set9 kk li.1), .linesx (.slice (some ⟨gv, 0, none⟩) L.length c1) LL i (.slice (some ⟨gb, 0, none⟩) cols cb)]) (by kernel_rfl) (fun vs => by rfl) S5.out ?_ ?_
              · refine SSteps.cons (fun a w' vs σ hS hl hs hk => ?_) ?_
                · have e8 : a.tmps.getD 8 undef = (.pointer (some ⟨b8, 0, none⟩) : Value) := (sk_old hk 8 (by kernel_rfl)).trans rfl
                  have f8 := gd e8
                  exact ro_pure (v := .pointer (some ⟨b8, 0, none⟩)) (wanted_none rfl) (by simp [execOp, Act.eval, e8, f8, go_sem]) (sp_same (by kernel_rfl) hl hs hS (show (.pointer (some ⟨b8, 0, none⟩) : Value) = _ from rfl)) trivial
                refine SSteps.cons (fun a w' vs σ hS hl hs hk => ?_) ?_
                · have e109 : a.tmps.getD 109 undef = (.pointer (some ⟨b8, 0, none⟩) : Value) := (sk_val hk 0 (by kernel_rfl) rfl rfl).trans ((hk.1 0 (by kernel_rfl)).1)
                  have f109 := gd e109
                  have hx := (hS.box (sg (hs 0 (by decide)))).cell
                  exact ro_pure (v := .slice (some ⟨gm, 0, none⟩) cols c8) (wanted_none rfl) (by simp [execOp, Act.eval, e109, f109, go_sem, hx]) (sp_same (by kernel_rfl) hl hs hS (show (.slice (some ⟨gm, 0, none⟩) cols c8 : Value) = _ from rfl)) trivial
                refine SSteps.cons (fun a w' vs σ hS hl hs hk => ?_) ?_
                · have e10 : a.tmps.getD 10 undef = (.int .i64 ↑kk : Value) := (sk_old hk 10 (by kernel_rfl)).trans rfl
                  have f10 := gd e10
                  exact ro_pure (v := .int .i64 ↑kk) (wanted_none rfl) (by simp [execOp, Act.eval, e10, f10, go_sem]) (sp_same (by kernel_rfl) hl hs hS (show (.int .i64 ↑kk : Value) = _ from rfl)) trivial
                refine SSteps.cons (fun a w' vs σ hS hl hs hk => ?_) ?_
                · have e6 : a.tmps.getD 6 undef = (.slice (some ⟨gv, 0, none⟩) L.length c1 : Value) := (sk_old hk 6 (by kernel_rfl)).trans rfl
                  have f6 := gd e6
                  exact ro_pure (v := .slice (some ⟨gv, 0, none⟩) L.length c1) (wanted_none rfl) (by simp [execOp, Act.eval, e6, f6, go_sem]) (sp_same (by kernel_rfl) hl hs hS (show (.slice (some ⟨gv, 0, none⟩) L.length c1 : Value) = _ from rfl)) trivial
                refine SSteps.cons (fun a w' vs σ hS hl hs hk => ?_) ?_
                · have e7 : a.tmps.getD 7 undef = (.int .i64 ↑i : Value) := (sk_old hk 7 (by kernel_rfl)).trans rfl
                  have f7 := gd e7
                  exact ro_pure (v := .int .i64 ↑i) (wanted_none rfl) (by simp [execOp, Act.eval, e7, f7, go_sem]) (sp_same (by kernel_rfl) hl hs hS (show (.int .i64 ↑i : Value) = _ from rfl)) trivial
                refine SSteps.cons (fun a w' vs σ hS hl hs hk => ?_) ?_
                · have e112 : a.tmps.getD 112 undef = (.slice (some ⟨gv, 0, none⟩) L.length c1 : Value) := (sk_val hk 3 (by kernel_rfl) rfl rfl).trans ((hk.1 3 (by kernel_rfl)).1)
                  have f112 := gd e112
                  have e113 : a.tmps.getD 113 undef = (.int .i64 ↑i : Value) := (sk_val hk 4 (by kernel_rfl) rfl rfl).trans ((hk.1 4 (by kernel_rfl)).1)
                  have f113 := gd e113
                  exact ro_pure (v := .pointer (some ⟨gv, i * 2, none⟩)) (wanted_none rfl) (by simp [execOp, Act.eval, e112, f112, e113, f113, go_sem, hb0, hb1]) (sp_same (by kernel_rfl) hl hs hS (show (.pointer (some ⟨gv, i * 2, none⟩) : Value) = _ from rfl)) trivial
                refine SSteps.cons (fun a w' vs σ hS hl hs hk => ?_) ?_
                · have e114 : a.tmps.getD 114 undef = (.pointer (some ⟨gv, i * 2, none⟩) : Value) := (sk_val hk 5 (by kernel_rfl) rfl rfl).trans ((hk.1 5 (by kernel_rfl)).1)
                  have f114 := gd e114
                  exact ro_pure (v := .pointer (some ⟨gv, i * 2, none⟩)) (wanted_none rfl) (by simp [execOp, Act.eval, e114, f114, go_sem]) (sp_same (by kernel_rfl) hl hs hS (show (.pointer (some ⟨gv, i * 2, none⟩) : Value) = _ from rfl)) trivial
                refine SSteps.cons (fun a w' vs σ hS hl hs hk => ?_) ?_
                · have e115 : a.tmps.getD 115 undef = (.pointer (some ⟨gv, i * 2, none⟩) : Value) := (sk_val hk 6 (by kernel_rfl) rfl rfl).trans ((hk.1 6 (by kernel_rfl)).1)
                  have f115 := gd e115
                  obtain ⟨g', c', e', -, -, -, -, hx, -, -⟩ := hS.linesxRd (sg (hs 3 (by decide)))
                  simp only [Value.slice.injEq, Option.some.injEq, Addr.mk.injEq, and_true, true_and] at e'
                  obtain ⟨rfl, -, rfl⟩ := e'
                  exact ro_pure (v := .slice (some ⟨gb, 0, none⟩) cols cb) (wanted_none rfl) (by simp [execOp, Act.eval, e115, f115, go_sem, hx]) (sp_same (by kernel_rfl) hl hs hS (show (.slice (some ⟨gb, 0, none⟩) cols cb : Value) = _ from rfl)) trivial
                refine SSteps.cons (fun a w' vs σ hS hl hs hk => ?_) ?_
                · have e10 : a.tmps.getD 10 undef = (.int .i64 ↑kk : Value) := (sk_old hk 10 (by kernel_rfl)).trans rfl
                  have f10 := gd e10
                  exact ro_pure (v := .int .i64 ↑kk) (wanted_none rfl) (by simp [execOp, Act.eval, e10, f10, go_sem]) (sp_same (by kernel_rfl) hl hs hS (show (.int .i64 ↑kk : Value) = _ from rfl)) trivial
                refine SSteps.cons (fun a w' vs σ hS hl hs hk => ?_) ?_
                · have e110 : a.tmps.getD 110 undef = (.slice (some ⟨gm, 0, none⟩) cols c8 : Value) := (sk_val hk 1 (by kernel_rfl) rfl rfl).trans ((hk.1 1 (by kernel_rfl)).1)
                  have f110 := gd e110
                  have e111 : a.tmps.getD 111 undef = (.int .i64 ↑kk : Value) := (sk_val hk 2 (by kernel_rfl) rfl rfl).trans ((hk.1 2 (by kernel_rfl)).1)
                  have f111 := gd e111
                  exact ro_pure (v := .pointer (some ⟨gm, kk * 16, none⟩)) (wanted_none rfl) (by simp [execOp, Act.eval, e110, f110, e111, f111, go_sem, hk0, hk1]) (sp_same (by kernel_rfl) hl hs hS (show (.pointer (some ⟨gm, kk * 16, none⟩) : Value) = _ from rfl)) trivial
                refine SSteps.cons (fun a w' vs σ hS hl hs hk => ?_) ?_
                · have e118 : a.tmps.getD 118 undef = (.pointer (some ⟨gm, kk * 16, none⟩) : Value) := (sk_val hk 9 (by kernel_rfl) rfl rfl).trans ((hk.1 9 (by kernel_rfl)).1)
                  have f118 := gd e118
                  exact ro_pure (v := .pointer (some ⟨gm, kk * 16 + 4, none⟩)) (wanted_none rfl) (by simp [execOp, Act.eval, e118, f118, go_sem]) (sp_same (by kernel_rfl) hl hs hS (show (.pointer (some ⟨gm, kk * 16 + 4, none⟩) : Value) = _ from rfl)) trivial
                refine SSteps.cons (fun a w' vs σ hS hl hs hk => ?_) ?_
                · have e119 : a.tmps.getD 119 undef = (.pointer (some ⟨gm, kk * 16 + 4, none⟩) : Value) := (sk_val hk 10 (by kernel_rfl) rfl rfl).trans ((hk.1 10 (by kernel_rfl)).1)
                  have f119 := gd e119
                  have h1 : σ[1]? = some (.cells (.slice (some ⟨gm, 0, none⟩) cols c8) mc) := hs 1 (by decide)
                  obtain ⟨xx, hxx⟩ := get_of (show kk < mc.length by rw [HMC.out]; omega)
                  have hcf := cells_facts hS (sg h1) (i := kk) hxx
                  have hx := hcf.1
                  have hf := hcf.2.2.2.1
                  have hz := hcf.2.2.2.2
                  have h2 := hS.setWidth (k := 1) (sg h1) hxx 9
                  rw [cellW_at hxx] at h2
                  exact rstep_store (w2 := w'.setCell ⟨gm, kk * 16 + 4, none⟩ (.int .i64 9)) (wanted_none rfl) rfl (by simp [execOp, Act.eval, e119, f119, hx, hf, hz, go_sem]) (sp_set 1 (.cells (.slice (some ⟨gm, 0, none⟩) cols c8) (set9 kk mc)) (by kernel_rfl) (by simp) (by decide) hl hs (by rfl) h2 trivial) trivial
                refine SSteps.cons (fun a w' vs σ hS hl hs hk => ?_) ?_
                · have e116 : a.tmps.getD 116 undef = (.slice (some ⟨gb, 0, none⟩) cols cb : Value) := (sk_val hk 7 (by kernel_rfl) rfl rfl).trans ((hk.1 7 (by kernel_rfl)).1)
                  have f116 := gd e116
                  have e117 : a.tmps.getD 117 undef = (.int .i64 ↑kk : Value) := (sk_val hk 8 (by kernel_rfl) rfl rfl).trans ((hk.1 8 (by kernel_rfl)).1)
                  have f117 := gd e117
                  exact ro_pure (v := .pointer (some ⟨gb, kk * 16, none⟩)) (wanted_none rfl) (by simp [execOp, Act.eval, e116, f116, e117, f117, go_sem, hk0, hk1]) (sp_same (by kernel_rfl) hl hs hS (show (.pointer (some ⟨gb, kk * 16, none⟩) : Value) = _ from rfl)) trivial
                refine SSteps.cons (fun a w' vs σ hS hl hs hk => ?_) ?_
                · have e120 : a.tmps.getD 120 undef = (.pointer (some ⟨gb, kk * 16, none⟩) : Value) := (sk_val hk 12 (by kernel_rfl) rfl rfl).trans ((hk.1 12 (by kernel_rfl)).1)
                  have f120 := gd e120
                  exact ro_pure (v := .pointer (some ⟨gb, kk * 16 + 4, none⟩)) (wanted_none rfl) (by simp [execOp, Act.eval, e120, f120, go_sem]) (sp_same (by kernel_rfl) hl hs hS (show (.pointer (some ⟨gb, kk * 16 + 4, none⟩) : Value) = _ from rfl)) trivial
                refine SSteps.cons (fun a w' vs σ hS hl hs hk => ?_) ?_
                · have e121 : a.tmps.getD 121 undef = (.pointer (some ⟨gb, kk * 16 + 4, none⟩) : Value) := (sk_val hk 13 (by kernel_rfl) rfl rfl).trans ((hk.1 13 (by kernel_rfl)).1)
                  have f121 := gd e121
                  have h1 : σ[2]? = some (.cells (.slice (some ⟨gb, 0, none⟩) cols cb) li.1) := hs 2 (by decide)
                  obtain ⟨xx, hxx⟩ := get_of (show kk < li.1.length by rw [HRC.out]; omega)
                  have hcf := cells_facts hS (sg h1) (i := kk) hxx
                  have hx := hcf.1
                  have hf := hcf.2.2.2.1
                  have hz := hcf.2.2.2.2
                  have h2 := hS.setWidth (k := 2) (sg h1) hxx 9
                  rw [cellW_at hxx] at h2
                  exact rstep_store (w2 := w'.setCell ⟨gb, kk * 16 + 4, none⟩ (.int .i64 9)) (wanted_none rfl) rfl (by simp [execOp, Act.eval, e121, f121, hx, hf, hz, go_sem]) (sp_set 2 (.cells (.slice (some ⟨gb, 0, none⟩) cols cb) (set9 kk li.1)) (by kernel_rfl) (by simp) (by decide) hl hs (by rfl) h2 trivial) trivial
                exact SSteps.nil
              · intro vs w' hS hv
                have q0 := (show vs 0 = (.pointer (some ⟨b8, 0, none⟩) : Value) from hv 0 (by decide))
                have q1 := (show vs 1 = (.slice (some ⟨gm, 0, none⟩) cols c8 : Value) from hv 1 (by decide))
                have q2 := (show vs 2 = (.int .i64 ↑kk : Value) from hv 2 (by decide))
                have q3 := (show vs 3 = (.slice (some ⟨gv, 0, none⟩) L.length c1 : Value) from hv 3 (by decide))
                have q4 := (show vs 4 = (.int .i64 ↑i : Value) from hv 4 (by decide))
                have q5 := (show vs 5 = (.pointer (some ⟨gv, i * 2, none⟩) : Value) from hv 5 (by decide))
                have q6 := (show vs 6 = (.pointer (some ⟨gv, i * 2, none⟩) : Value) from hv 6 (by decide))
                have q7 := (show vs 7 = (.slice (some ⟨gb, 0, none⟩) cols cb : Value) from hv 7 (by decide))
                have q8 := (show vs 8 = (.int .i64 ↑kk : Value) from hv 8 (by decide))
                have q9 := (show vs 9 = (.pointer (some ⟨gm, kk * 16, none⟩) : Value) from hv 9 (by decide))
                have q10 := (show vs 10 = (.pointer (some ⟨gm, kk * 16 + 4, none⟩) : Value) from hv 10 (by decide))
                have q12 := (show vs 12 = (.pointer (some ⟨gb, kk * 16, none⟩) : Value) from hv 12 (by decide))
                have q13 := (show vs 13 = (.pointer (some ⟨gb, kk * 16 + 4, none⟩) : Value) from hv 13 (by decide))
                have S2 := Lib.hid hS
                simp only [putL, Act.put, Nat.zero_add, Nat.reduceAdd, List.setIfInBounds_toArray, List.set_cons_succ, List.set_cons_zero, q0, q1, q2, q3, q4, q5, q6, q7, q8, q9, q10, q12, q13]
                clear hS hv q0 q1 q2 q3 q4 q5 q6 q7 q8 q9 q10 q12 q13
                have S6 := Lib.hid (show Objs w0 _ (.box b8 39 #[.slice (some ⟨gm, 0, none⟩) cols c8, .bool l.2] :: .cells (.slice (some ⟨gm, 0, none⟩) cols c8) (set9 kk mc) :: .lines (.slice (some ⟨gv, 0, none⟩) L.length c1) (LL.set i (set9 kk li.1, li.2)) :: os) from (show Objs w0 _ (.cells _ _ :: _) from (Objs.pick (σ := [_, _, _, _]) (os := os) S2.out [some 2, some 0, some 1, some 3] (by decide) rfl)).closeRow (k := 2) (s := li.2) rfl (by rw [HLI.out]; rfl))
                clear S2 S5
                go_wp2_with fail
                go_roundw
                case rel => exact ⟨kk + 1, set9 kk mc, LL.set i (set9 kk li.1, li.2), by omega, by go_num, Lib.hid (by rw [set9_length]; exact HMC.out), Lib.hid ⟨by rw [List.length_set]; exact HLL.out.1, rect_set HLL.out.2 (by rw [set9_length]; exact HRC.out)⟩, S6.out⟩
                case measure => simp [intOf]; omega
end
end Go.Proofs.YtppijfjigcoifaaDoor

/-
  A whole line stored into a slice of lines.
-/
set_option linter.unusedSimpArgs false
set_option linter.unusedVariables false
namespace Go.Proofs.YtppijfjigcoifaaDoor
open Go.RowKit

section
variable {w0 w : World} {os : List Ob} {L : List Ln} {v b : Value}
end
end Go.Proofs.YtppijfjigcoifaaDoor

/-
  SetLine: a row becomes another one.
-/
set_option linter.unusedSimpArgs false
set_option linter.unusedVariables false
namespace Go.Proofs.YtppijfjigcoifaaDoor
open Go.RowKit

section
variable {w0 w : World} {os : List Ob} {p cols : Nat} {L : List Ln}
end
end Go.Proofs.YtppijfjigcoifaaDoor

/-
  Of: a grid of given lines.
-/
set_option linter.unusedSimpArgs false
set_option linter.unusedVariables false
namespace Go.Proofs.YtppijfjigcoifaaDoor
open Go.RowKit

theorem fit_snoc {Ls : List Ln} {i : Nat} {f : Ln → Ln} {x : List Cell} {s : Bool} (h : i < Ls.length) (hx : f Ls[i] = (x, s)) : (Ls.take i).map f ++ [(x, s)] = (Ls.take (i + 1)).map f := by
  rw [List.take_add_one, List.getElem?_eq_getElem h, List.map_append, ← hx]; rfl
set_option maxRecDepth 100000 in
set_option maxHeartbeats 4000000 in
theorem gridOf_yes (A : Option Addr) (c : Nat) (Ls : List Ln) (cols : Nat) (w : World) (hT : Tabs w) (ha : RdL w A c Ls) (h1 : 1 ≤ cols) (h2 : cols ≤ 1000) (h3 : 1 ≤ Ls.length) (h4 : Ls.length ≤ 1000) (hx : ∀ l ∈ Ls, l.1.length ≤ 100000) (hv : ∀ l ∈ Ls, lineOk l.1 = true) :
    Calls Tryd.prog 23 #[.int .i64 cols, .slice A Ls.length c] w fun e w' => ∃ p, e = .returned (.tuple #[.pointer (some ⟨p, 0, none⟩), .int .i64 0]) ∧ Objs w w' [.grid p 58 cols (Ls.map (fun l : Ln => (fitTo cols l.1, l.2)))] := by
  have HT := Lib.hid hT
  have HA := Lib.hid ha
  have HX := Lib.hid hx
  have HV := Lib.hid hv
  clear hT ha hx hv
  go_enter Tryd.func23, Tryd.ntmps23
  go_wp2_with fail
  refine at_objsC (objs_start w).alloc1 (fun W S1 => ?_)
  generalize w.heap.size = p at S1 ⊢
  have S0 := Lib.hid S1.nilLines
  clear S1
  go_loopw [8, 9, 10, 32] (fun _ _ _ vi wr => ∃ (i : Nat) (v : Value), i ≤ Ls.length ∧ vi = .int .i64 i ∧ Objs w wr [.lines v ((Ls.take i).map (fun l : Ln => (fitTo cols l.1, l.2))), .box p 58 #[.int .i64 ↑cols, v]]) (fun _ _ _ vi _ => Ls.length - (intOf vi).toNat)
  case atStart => exact ⟨0, _, Nat.zero_le _, rfl, S0.out⟩
  case round =>
  clear S0
  obtain ⟨i, v, hi, rfl, hS⟩ := hrel
  have S := Lib.hid hS
  clear hS
  by_cases hlt : i < Ls.length
  case neg =>
    obtain rfl : i = Ls.length := by omega
    have SG := Lib.hid (S.out.closeGrid (k := 0) rfl)
    clear S
    go_wp2_with fail
    go_ret2
    exact ⟨p, rfl, by have h := SG.out; rw [List.take_length] at h; exact h⟩
  have HL := Lib.hid (show Ls[i]? = some Ls[i] by simp [hlt])
  have HLL := Lib.hid (show ((Ls.take i).map (fun l : Ln => (fitTo cols l.1, l.2))).length ≤ 1000000 by simp; omega)
  have HLI := Lib.hid (HX.out Ls[i] (List.getElem_mem _))
  obtain ⟨b, off, Ai, ci, rfl, hzb, hc1, hc2, hri⟩ := (HA.out.bel S.out.base).at_ HL.out
  have HRI := Lib.hid (hri.bel (belA _ (.cells #[.slice Ai Ls[i].1.length ci, .bool Ls[i].2] 39)))
  have S1 := Lib.hid (S.out.alloc1 (c1 := #[.slice Ai Ls[i].1.length ci, .bool Ls[i].2]) (t1 := 39))
  have hb0 : (0 : Int) ≤ (i : Int) := by omega
  have hb1 : (i : Int) < (Ls.length : Int) := by omega
  clear hri
  have HVI := Lib.hid (show lineOk Ls[i].1 = true from HV.out _ (List.getElem_mem _))
  go_wp2_with fail
  refine (show Calls Tryd.prog 61 #[.agg #[.slice Ai Ls[i].1.length ci, .bool Ls[i].2], .int .i64 cols] _ _ from fit_yes Ai ci Ls[i].1 Ls[i].2 cols h2 HT.out S1.out HRI.out HLI.out HVI.out).mono ?_
  rintro e w1 ⟨v3, rfl, hS⟩
  obtain ⟨Af, cf, rfl, -⟩ := hS.cellsRd (k := 0) rfl
  have S2 := Lib.hid (hS.alloc1 (c1 := #[.slice Af (fitTo cols Ls[i].1).length cf, .bool Ls[i].2]) (t1 := 39))
  clear hS S1 HRI hzb hc1 hc2
  go_upto_region 10 with (fail)
  generalize w1.heap.size = bl at S2 ⊢
  generalize hnf : (fitTo cols Ls[i].1).length = nf at S2 ⊢
  generalize hsf : Ls[i].2 = sf at S2 ⊢
  have HSF := Lib.hid hsf
  clear hnf hsf
  have SX := Lib.hid (show Objs w _ [.none, .lines v ((Ls.take i).map (fun l : Ln => (fitTo cols l.1, l.2))), .box p 58 #[.int .i64 ↑cols, v], .box bl 39 #[.slice Af nf cf, .bool sf], .cells (.slice Af nf cf) (fitTo cols Ls[i].1)] from by
    have h := S2.out
    exact Objs.pick (σ := [_, _, _, _, _]) (os := []) h [none, some 3, some 4, some 0, some 1] (by decide) rfl)
  clear S2
  refine wp_region_stage (w0 := w) (os := []) (by kernel_rfl) (by kernel_rfl) (by kernel_rfl) [(0, 6, [6], fun vs => .box (blkOf (vs 6)) 39 #[.slice Af nf cf, .bool sf]), (1, 7, [7], fun vs => .lines (vs 7) (((Ls.take i).map (fun l : Ln => (fitTo cols l.1, l.2))) ++ [((fitTo cols Ls[i].1), sf)])), (4, 7, [], fun vs => .none), (2, 10, [7], fun vs => .box p 58 #[.int .i64 ↑cols, vs 7])] [[], [], [], [], [2], [3], [0], [0, 1, 4], [], [], [2]] [.none, .lines v ((Ls.take i).map (fun l : Ln => (fitTo cols l.1, l.2))), .box p 58 #[.int .i64 ↑cols, v], .box bl 39 #[.slice Af nf cf, .bool sf], .cells (.slice Af nf cf) (fitTo cols Ls[i].1)] (fun opn u => match opn with | 0 => u = (.pointer (some ⟨p, 0, none⟩) : Value) | 1 => u = (.pointer (some ⟨p, 0, none⟩) : Value) | 2 => u = (.pointer (some ⟨p, 0, none⟩) : Value) | 3 => u = (.pointer (some ⟨p, 1, none⟩) : Value) | 4 => u = (v : Value) | 5 => u = (.agg #[.slice Af nf cf, .bool sf] : Value) | 6 => ∃ g, u = .slice (some ⟨g, 0, none⟩) 1 1 | 7 => ∃ A n c, u = .slice A n c | 8 => u = (.pointer (some ⟨p, 0, none⟩) : Value) | 9 => u = (.pointer (some ⟨p, 1, none⟩) : Value) | 10 => True | _ => True) (fun vs => [.box (blkOf (vs 6)) 39 #[.slice Af nf cf, .bool sf], .lines (vs 7) (((Ls.take i).map (fun l : Ln => (fitTo cols l.1, l.2))) ++ [((fitTo cols Ls[i].1), sf)]), .box p 58 #[.int .i64 ↑cols, vs 7], .box bl 39 #[.slice Af nf cf, .bool sf], .none]) (by kernel_rfl) (fun vs => by rfl) SX.out ?_ ?_
  · refine SSteps.cons (fun a w' vs σ hS hl hs hk => ?_) ?_
    · have e6 : a.tmps.getD 6 undef = (.pointer (some ⟨p, 0, none⟩) : Value) := (sk_old hk 6 (by kernel_rfl)).trans rfl
      have f6 := gd e6
      exact ro_pure (v := .pointer (some ⟨p, 0, none⟩)) (wanted_none rfl) (by simp [execOp, Act.eval, e6, f6, go_sem]) (sp_same (by kernel_rfl) hl hs hS (show (.pointer (some ⟨p, 0, none⟩) : Value) = _ from rfl)) trivial
    refine SSteps.cons (fun a w' vs σ hS hl hs hk => ?_) ?_
    · have e6 : a.tmps.getD 6 undef = (.pointer (some ⟨p, 0, none⟩) : Value) := (sk_old hk 6 (by kernel_rfl)).trans rfl
      have f6 := gd e6
      exact ro_pure (v := .pointer (some ⟨p, 0, none⟩)) (wanted_none rfl) (by simp [execOp, Act.eval, e6, f6, go_sem]) (sp_same (by kernel_rfl) hl hs hS (show (.pointer (some ⟨p, 0, none⟩) : Value) = _ from rfl)) trivial
    refine SSteps.cons (fun a w' vs σ hS hl hs hk => ?_) ?_
    · have e45 : a.tmps.getD 45 undef = (.pointer (some ⟨p, 0, none⟩) : Value) := (sk_val hk 1 (by kernel_rfl) rfl rfl).trans ((hk.1 1 (by kernel_rfl)).1)
      have f45 := gd e45
      exact ro_pure (v := .pointer (some ⟨p, 0, none⟩)) (wanted_none rfl) (by simp [execOp, Act.eval, e45, f45, go_sem]) (sp_same (by kernel_rfl) hl hs hS (show (.pointer (some ⟨p, 0, none⟩) : Value) = _ from rfl)) trivial
    refine SSteps.cons (fun a w' vs σ hS hl hs hk => ?_) ?_
    · have e46 : a.tmps.getD 46 undef = (.pointer (some ⟨p, 0, none⟩) : Value) := (sk_val hk 2 (by kernel_rfl) rfl rfl).trans ((hk.1 2 (by kernel_rfl)).1)
      have f46 := gd e46
      exact ro_pure (v := .pointer (some ⟨p, 1, none⟩)) (wanted_none rfl) (by simp [execOp, Act.eval, e46, f46, go_sem]) (sp_same (by kernel_rfl) hl hs hS (show (.pointer (some ⟨p, 1, none⟩) : Value) = _ from rfl)) trivial
    refine SSteps.cons (fun a w' vs σ hS hl hs hk => ?_) ?_
    · have e47 : a.tmps.getD 47 undef = (.pointer (some ⟨p, 1, none⟩) : Value) := (sk_val hk 3 (by kernel_rfl) rfl rfl).trans ((hk.1 3 (by kernel_rfl)).1)
      have f47 := gd e47
      have hx := (hS.box (sg (hs 2 (by decide)))).cell
      exact ro_pure (v := v) (wanted_none rfl) (by simp [execOp, Act.eval, e47, f47, go_sem, hx]) (sp_same (by kernel_rfl) hl hs hS (show (v : Value) = _ from rfl)) trivial
    refine SSteps.cons (fun a w' vs σ hS hl hs hk => ?_) ?_
    · have e9 : a.tmps.getD 9 undef = (.pointer (some ⟨bl, 0, none⟩) : Value) := (sk_old hk 9 (by kernel_rfl)).trans rfl
      have f9 := gd e9
      have hx := (hS.box (sg (hs 3 (by decide)))).cell
      exact ro_pure (v := .agg #[.slice Af nf cf, .bool sf]) (wanted_none rfl) (by simp [execOp, Act.eval, e9, f9, go_sem, hx]) (sp_same (by kernel_rfl) hl hs hS (show (.agg #[.slice Af nf cf, .bool sf] : Value) = _ from rfl)) trivial
    refine SSteps.cons (fun a w' vs σ hS hl hs hk => ?_) ?_
    · have e49 : a.tmps.getD 49 undef = (.agg #[.slice Af nf cf, .bool sf] : Value) := (sk_val hk 5 (by kernel_rfl) rfl rfl).trans ((hk.1 5 (by kernel_rfl)).1)
      have f49 := gd e49
      have h1 : σ[0]? = some .none := hs 0 (by decide)
      exact rs_run (wanted_none rfl) (exec_bsl rfl (by simp [Act.eval, e49, f49]) (run_bsl (.slice Af nf cf) sf w')) (sp_set 0 (.box w'.heap.size 39 #[.slice Af nf cf, .bool sf]) (by kernel_rfl) (by simp) (by decide) hl hs (by rfl) (hS.alloc1.place (sg h1)) ⟨_, rfl⟩)
    refine SSteps.cons (fun a w' vs σ hS hl hs hk => ?_) ?_
    · have e48 : a.tmps.getD 48 undef = (v : Value) := (sk_val hk 4 (by kernel_rfl) rfl rfl).trans ((hk.1 4 (by kernel_rfl)).1)
      have f48 := gd e48
      have e50 : a.tmps.getD 50 undef = vs 6 := sk_val hk 6 (by kernel_rfl) rfl rfl
      have p50 : (fun u : Value => ∃ g, u = .slice (some ⟨g, 0, none⟩) 1 1) (vs 6) := (hk.1 6 (by kernel_rfl)).1
      have f50 := gd e50
      have h2 : σ[1]? = some (.lines v ((Ls.take i).map (fun l : Ln => (fitTo cols l.1, l.2)))) := hs 1 (by decide)
      have h0 : σ[4]? = some (.cells (.slice Af nf cf) (fitTo cols Ls[i].1)) := hs 4 (by decide)
      have h1 : σ[0]? = some (.box (blkOf (vs 6)) 39 #[.slice Af nf cf, .bool sf]) := hs 0 (by decide)
      obtain ⟨g8, hg8⟩ := p50
      rw [hg8, show blkOf (.slice (some ⟨g8, 0, none⟩) 1 1) = g8 from rfl] at h1
      obtain ⟨v9, w9, hr, hS2, A9, c9, hv9⟩ := run_appL hS (k := 1) (j := 4) (ad := ⟨g8, 0, none⟩) (c := 1) (s := sf) (sg h2) (sg h0) (by decide) (by rw [(hS.box (sg h1)).cell]; rfl) (by rw [add_at, (hS.box (sg h1)).cell]; rfl) HLL.out 30
      exact rs_run (wanted_none rfl) (exec_app rfl (by simp only [Act.eval]; exact e48) (by simp only [Act.eval]; exact e50.trans hg8) hr) (sp_set2 1 4 (.lines v9 (((Ls.take i).map (fun l : Ln => (fitTo cols l.1, l.2))) ++ [((fitTo cols Ls[i].1), sf)])) .none (by decide) (by kernel_rfl) (by simp) (by simp) (by decide) (by decide) hl hs (by rfl) (by rfl) hS2 ⟨A9, _, c9, hv9⟩)
    refine SSteps.cons (fun a w' vs σ hS hl hs hk => ?_) ?_
    · have e44 : a.tmps.getD 44 undef = (.pointer (some ⟨p, 0, none⟩) : Value) := (sk_val hk 0 (by kernel_rfl) rfl rfl).trans ((hk.1 0 (by kernel_rfl)).1)
      have f44 := gd e44
      exact ro_pure (v := .pointer (some ⟨p, 0, none⟩)) (wanted_none rfl) (by simp [execOp, Act.eval, e44, f44, go_sem]) (sp_same (by kernel_rfl) hl hs hS (show (.pointer (some ⟨p, 0, none⟩) : Value) = _ from rfl)) trivial
    refine SSteps.cons (fun a w' vs σ hS hl hs hk => ?_) ?_
    · have e52 : a.tmps.getD 52 undef = (.pointer (some ⟨p, 0, none⟩) : Value) := (sk_val hk 8 (by kernel_rfl) rfl rfl).trans ((hk.1 8 (by kernel_rfl)).1)
      have f52 := gd e52
      exact ro_pure (v := .pointer (some ⟨p, 1, none⟩)) (wanted_none rfl) (by simp [execOp, Act.eval, e52, f52, go_sem]) (sp_same (by kernel_rfl) hl hs hS (show (.pointer (some ⟨p, 1, none⟩) : Value) = _ from rfl)) trivial
    refine SSteps.cons (fun a w' vs σ hS hl hs hk => ?_) ?_
    · have e53 : a.tmps.getD 53 undef = (.pointer (some ⟨p, 1, none⟩) : Value) := (sk_val hk 9 (by kernel_rfl) rfl rfl).trans ((hk.1 9 (by kernel_rfl)).1)
      have f53 := gd e53
      have e51 : a.tmps.getD 51 undef = vs 7 := sk_val hk 7 (by kernel_rfl) rfl rfl
      have p51 : (fun u : Value => ∃ A n c, u = .slice A n c) (vs 7) := (hk.1 7 (by kernel_rfl)).1
      have f51 := gd e51
      have h3 : σ[2]? = some (.box p 58 #[.int .i64 ↑cols, v]) := hs 2 (by decide)
      obtain ⟨hx, hf, hz⟩ := (hS.box (sg h3)).facts
      obtain ⟨A9, n9, c9, q9⟩ := p51
      exact rstep_store (w2 := w'.setCell ⟨p, 1, none⟩ (.slice A9 n9 c9)) (wanted_none rfl) rfl (by simp [execOp, Act.eval, e53, f53, e51, f51, q9, hx, hf, hz, go_sem]) (sp_set 2 (.box p 58 #[.int .i64 ↑cols, vs 7]) (by kernel_rfl) (by simp) (by decide) hl hs (by rfl) (by rw [q9]; exact hS.setBox 2 (sg h3)) trivial) trivial
    exact SSteps.nil
  · intro vs w' hS hv
    have q0 := (show vs 0 = (.pointer (some ⟨p, 0, none⟩) : Value) from hv 0 (by decide))
    have q1 := (show vs 1 = (.pointer (some ⟨p, 0, none⟩) : Value) from hv 1 (by decide))
    have q2 := (show vs 2 = (.pointer (some ⟨p, 0, none⟩) : Value) from hv 2 (by decide))
    have q3 := (show vs 3 = (.pointer (some ⟨p, 1, none⟩) : Value) from hv 3 (by decide))
    have q4 := (show vs 4 = (v : Value) from hv 4 (by decide))
    have q5 := (show vs 5 = (.agg #[.slice Af nf cf, .bool sf] : Value) from hv 5 (by decide))
    have q8 := (show vs 8 = (.pointer (some ⟨p, 0, none⟩) : Value) from hv 8 (by decide))
    have q9 := (show vs 9 = (.pointer (some ⟨p, 1, none⟩) : Value) from hv 9 (by decide))
    have S2 := Lib.hid hS
    simp only [putL, Act.put, Nat.zero_add, Nat.reduceAdd, List.setIfInBounds_toArray, List.set_cons_succ, List.set_cons_zero, q0, q1, q2, q3, q4, q5, q8, q9]
    clear hS hv q0 q1 q2 q3 q4 q5 q8 q9
    have S3 := Lib.hid ((((show Objs w _ (_ :: _ :: _ :: _ :: _ :: []) from S2.out).del 4).del 3).del 0)
    clear S2
    go_wp2_with fail
    go_roundw
    case rel => exact ⟨i + 1, vs 7, by omega, by go_num, by have h := S3.out; rw [fit_snoc hlt (by rw [← HSF.out])] at h; exact h⟩
    case measure => simp [intOf]; omega
set_option maxRecDepth 100000 in
set_option maxHeartbeats 4000000 in
theorem gridOf_bad (A : Option Addr) (c : Nat) (Ls : List Ln) (cols : Nat) (w : World) (hT : Tabs w) (ha : RdL w A c Ls) (h1 : 1 ≤ cols) (h2 : cols ≤ 1000) (h3 : 1 ≤ Ls.length) (h4 : Ls.length ≤ 1000) (hx : ∀ l ∈ Ls, l.1.length ≤ 100000) (hv : ∃ l, l ∈ Ls ∧ lineOk l.1 = false) :
    Calls Tryd.prog 23 #[.int .i64 cols, .slice A Ls.length c] w fun e w' => e = .returned (.tuple #[.pointer none, .int .i64 2]) ∧ Below w.heap.size w w' := by
  have HT := Lib.hid hT
  have HA := Lib.hid ha
  have HX := Lib.hid hx
  have HV := Lib.hid hv
  clear hT ha hx hv
  go_enter Tryd.func23, Tryd.ntmps23
  go_wp2_with fail
  refine at_objsC (objs_start w).alloc1 (fun W S1 => ?_)
  generalize w.heap.size = p at S1 ⊢
  have S0 := Lib.hid S1.nilLines
  clear S1
  go_loopw [8, 9, 10, 32] (fun _ _ _ vi wr => ∃ (i : Nat) (v : Value), i ≤ Ls.length ∧ vi = .int .i64 i ∧ Hid (∀ (k : Nat) (hk : k < Ls.length), k < i → lineOk Ls[k].1 = true) ∧ Objs w wr [.lines v ((Ls.take i).map (fun l : Ln => (fitTo cols l.1, l.2))), .box p 58 #[.int .i64 ↑cols, v]]) (fun _ _ _ vi _ => Ls.length - (intOf vi).toNat)
  case atStart => exact ⟨0, _, Nat.zero_le _, rfl, Lib.hid (fun k hk h => by omega), S0.out⟩
  case round =>
  clear S0
  obtain ⟨i, v, hi, rfl, HALL, hS⟩ := hrel
  have S := Lib.hid hS
  clear hS
  by_cases hlt : i < Ls.length
  case neg =>
    obtain rfl : i = Ls.length := by omega
    exact (HV.out.elim fun l hl => by
      obtain ⟨k, hk, rfl⟩ := List.getElem_of_mem hl.1
      have := HALL.out k hk (by omega)
      rw [hl.2] at this; cases this)
  have HL := Lib.hid (show Ls[i]? = some Ls[i] by simp [hlt])
  have HLL := Lib.hid (show ((Ls.take i).map (fun l : Ln => (fitTo cols l.1, l.2))).length ≤ 1000000 by simp; omega)
  have HLI := Lib.hid (HX.out Ls[i] (List.getElem_mem _))
  obtain ⟨b, off, Ai, ci, rfl, hzb, hc1, hc2, hri⟩ := (HA.out.bel S.out.base).at_ HL.out
  have HRI := Lib.hid (hri.bel (belA _ (.cells #[.slice Ai Ls[i].1.length ci, .bool Ls[i].2] 39)))
  have S1 := Lib.hid (S.out.alloc1 (c1 := #[.slice Ai Ls[i].1.length ci, .bool Ls[i].2]) (t1 := 39))
  have hb0 : (0 : Int) ≤ (i : Int) := by omega
  have hb1 : (i : Int) < (Ls.length : Int) := by omega
  clear hri
  by_cases hvi : lineOk Ls[i].1 = true
  case neg =>
    have HVI := Lib.hid (show lineOk Ls[i].1 = false by simpa using hvi)
    go_wp2_with fail
    refine (show Calls Tryd.prog 61 #[.agg #[.slice Ai Ls[i].1.length ci, .bool Ls[i].2], .int .i64 cols] _ _ from fit_no Ai ci Ls[i].1 Ls[i].2 cols HT.out S1.out HRI.out HLI.out HVI.out).mono ?_
    rintro e w1 ⟨rfl, hS⟩
    have S2 := Lib.hid (hS.alloc1 (c1 := #[.slice none 0 0, .bool false]) (t1 := 39)).base
    clear hS
    go_wp2_with fail
    go_ret2
    exact ⟨rfl, S2.out⟩
  have HVI := Lib.hid hvi
  go_wp2_with fail
  refine (show Calls Tryd.prog 61 #[.agg #[.slice Ai Ls[i].1.length ci, .bool Ls[i].2], .int .i64 cols] _ _ from fit_yes Ai ci Ls[i].1 Ls[i].2 cols h2 HT.out S1.out HRI.out HLI.out HVI.out).mono ?_
  rintro e w1 ⟨v3, rfl, hS⟩
  obtain ⟨Af, cf, rfl, -⟩ := hS.cellsRd (k := 0) rfl
  have S2 := Lib.hid (hS.alloc1 (c1 := #[.slice Af (fitTo cols Ls[i].1).length cf, .bool Ls[i].2]) (t1 := 39))
  clear hS S1 HRI hzb hc1 hc2
  go_upto_region 10 with (fail)
  generalize w1.heap.size = bl at S2 ⊢
  generalize hnf : (fitTo cols Ls[i].1).length = nf at S2 ⊢
  generalize hsf : Ls[i].2 = sf at S2 ⊢
  have HSF := Lib.hid hsf
  clear hnf hsf
  have SX := Lib.hid (show Objs w _ [.none, .lines v ((Ls.take i).map (fun l : Ln => (fitTo cols l.1, l.2))), .box p 58 #[.int .i64 ↑cols, v], .box bl 39 #[.slice Af nf cf, .bool sf], .cells (.slice Af nf cf) (fitTo cols Ls[i].1)] from by
    have h := S2.out
    exact Objs.pick (σ := [_, _, _, _, _]) (os := []) h [none, some 3, some 4, some 0, some 1] (by decide) rfl)
  clear S2
  refine wp_region_stage (w0 := w) (os := []) (by kernel_rfl) (by kernel_rfl) (by kernel_rfl) [(0, 6, [6], fun vs => .box (blkOf (vs 6)) 39 #[.slice Af nf cf, .bool sf]), (1, 7, [7], fun vs => .lines (vs 7) (((Ls.take i).map (fun l : Ln => (fitTo cols l.1, l.2))) ++ [((fitTo cols Ls[i].1), sf)])), (4, 7, [], fun vs => .none), (2, 10, [7], fun vs => .box p 58 #[.int .i64 ↑cols, vs 7])] [[], [], [], [], [2], [3], [0], [0, 1, 4], [], [], [2]] [.none, .lines v ((Ls.take i).map (fun l : Ln => (fitTo cols l.1, l.2))), .box p 58 #[.int .i64 ↑cols, v], .box bl 39 #[.slice Af nf cf, .bool sf], .cells (.slice Af nf cf) (fitTo cols Ls[i].1)] (fun opn u => match opn with | 0 => u = (.pointer (some ⟨p, 0, none⟩) : Value) | 1 => u = (.pointer (some ⟨p, 0, none⟩) : Value) | 2 => u = (.pointer (some ⟨p, 0, none⟩) : Value) | 3 => u = (.pointer (some ⟨p, 1, none⟩) : Value) | 4 => u = (v : Value) | 5 => u = (.agg #[.slice Af nf cf, .bool sf] : Value) | 6 => ∃ g, u = .slice (some ⟨g, 0, none⟩) 1 1 | 7 => ∃ A n c, u = .slice A n c | 8 => u = (.pointer (some ⟨p, 0, none⟩) : Value) | 9 => u = (.pointer (some ⟨p, 1, none⟩) : Value) | 10 => True | _ => True) (fun vs => [.box (blkOf (vs 6)) 39 #[.slice Af nf cf, .bool sf], .lines (vs 7) (((Ls.take i).map (fun l : Ln => (fitTo cols l.1, l.2))) ++ [((fitTo cols Ls[i].1), sf)]), .box p 58 #[.int .i64 ↑cols, vs 7], .box bl 39 #[.slice Af nf cf, .bool sf], .none]) (by kernel_rfl) (fun vs => by rfl) SX.out ?_ ?_
  · refine SSteps.cons (fun a w' vs σ hS hl hs hk => ?_) ?_
    · have e6 : a.tmps.getD 6 undef = (.pointer (some ⟨p, 0, none⟩) : Value) := (sk_old hk 6 (by kernel_rfl)).trans rfl
      have f6 := gd e6
      exact ro_pure (v := .pointer (some ⟨p, 0, none⟩)) (wanted_none rfl) (by simp [execOp, Act.eval, e6, f6, go_sem]) (sp_same (by kernel_rfl) hl hs hS (show (.pointer (some ⟨p, 0, none⟩) : Value) = _ from rfl)) trivial
    refine SSteps.cons (fun a w' vs σ hS hl hs hk => ?_) ?_
    · have e6 : a.tmps.getD 6 undef = (.pointer (some ⟨p, 0, none⟩) : Value) := (sk_old hk 6 (by kernel_rfl)).trans rfl
      have f6 := gd e6
      exact ro_pure (v := .pointer (some ⟨p, 0, none⟩)) (wanted_none rfl) (by simp [execOp, Act.eval, e6, f6, go_sem]) (sp_same (by kernel_rfl) hl hs hS (show (.pointer (some ⟨p, 0, none⟩) : Value) = _ from rfl)) trivial
    refine SSteps.cons (fun a w' vs σ hS hl hs hk => ?_) ?_
    · have e45 : a.tmps.getD 45 undef = (.pointer (some ⟨p, 0, none⟩) : Value) := (sk_val hk 1 (by kernel_rfl) rfl rfl).trans ((hk.1 1 (by kernel_rfl)).1)
      have f45 := gd e45
      exact ro_pure (v := .pointer (some ⟨p, 0, none⟩)) (wanted_none rfl) (by simp [execOp, Act.eval, e45, f45, go_sem]) (sp_same (by kernel_rfl) hl hs hS (show (.pointer (some ⟨p, 0, none⟩) : Value) = _ from rfl)) trivial
    refine SSteps.cons (fun a w' vs σ hS hl hs hk => ?_) ?_
    · have e46 : a.tmps.getD 46 undef = (.pointer (some ⟨p, 0, none⟩) : Value) := (sk_val hk 2 (by kernel_rfl) rfl rfl).trans ((hk.1 2 (by kernel_rfl)).1)
      have f46 := gd e46
      exact ro_pure (v := .pointer (some ⟨p, 1, none⟩)) (wanted_none rfl) (by simp [execOp, Act.eval, e46, f46, go_sem]) (sp_same (by kernel_rfl) hl hs hS (show (.pointer (some ⟨p, 1, none⟩) : Value) = _ from rfl)) trivial
    refine SSteps.cons (fun a w' vs σ hS hl hs hk => ?_) ?_
    · have e47 : a.tmps.getD 47 undef = (.pointer (some ⟨p, 1, none⟩) : Value) := (sk_val hk 3 (by kernel_rfl) rfl rfl).trans ((hk.1 3 (by kernel_rfl)).1)
      have f47 := gd e47
      have hx := (hS.box (sg (hs 2 (by decide)))).cell
      exact ro_pure (v := v) (wanted_none rfl) (by simp [execOp, Act.eval, e47, f47, go_sem, hx]) (sp_same (by kernel_rfl) hl hs hS (show (v : Value) = _ from rfl)) trivial
    refine SSteps.cons (fun a w' vs σ hS hl hs hk => ?_) ?_
    · have e9 : a.tmps.getD 9 undef = (.pointer (some ⟨bl, 0, none⟩) : Value) := (sk_old hk 9 (by kernel_rfl)).trans rfl
      have f9 := gd e9
      have hx := (hS.box (sg (hs 3 (by decide)))).cell
      exact ro_pure (v := .agg #[.slice Af nf cf, .bool sf]) (wanted_none rfl) (by simp [execOp, Act.eval, e9, f9, go_sem, hx]) (sp_same (by kernel_rfl) hl hs hS (show (.agg #[.slice Af nf cf, .bool sf] : Value) = _ from rfl)) trivial
    refine SSteps.cons (fun a w' vs σ hS hl hs hk => ?_) ?_
    · have e49 : a.tmps.getD 49 undef = (.agg #[.slice Af nf cf, .bool sf] : Value) := (sk_val hk 5 (by kernel_rfl) rfl rfl).trans ((hk.1 5 (by kernel_rfl)).1)
      have f49 := gd e49
      have h1 : σ[0]? = some .none := hs 0 (by decide)
      exact rs_run (wanted_none rfl) (exec_bsl rfl (by simp [Act.eval, e49, f49]) (run_bsl (.slice Af nf cf) sf w')) (sp_set 0 (.box w'.heap.size 39 #[.slice Af nf cf, .bool sf]) (by kernel_rfl) (by simp) (by decide) hl hs (by rfl) (hS.alloc1.place (sg h1)) ⟨_, rfl⟩)
    refine SSteps.cons (fun a w' vs σ hS hl hs hk => ?_) ?_
    · have e48 : a.tmps.getD 48 undef = (v : Value) := (sk_val hk 4 (by kernel_rfl) rfl rfl).trans ((hk.1 4 (by kernel_rfl)).1)
      have f48 := gd e48
      have e50 : a.tmps.getD 50 undef = vs 6 := sk_val hk 6 (by kernel_rfl) rfl rfl
      have p50 : (fun u : Value => ∃ g, u = .slice (some ⟨g, 0, none⟩) 1 1) (vs 6) := (hk.1 6 (by kernel_rfl)).1
      have f50 := gd e50
      have h2 : σ[1]? = some (.lines v ((Ls.take i).map (fun l : Ln => (fitTo cols l.1, l.2)))) := hs 1 (by decide)
      have h0 : σ[4]? = some (.cells (.slice Af nf cf) (fitTo cols Ls[i].1)) := hs 4 (by decide)
      have h1 : σ[0]? = some (.box (blkOf (vs 6)) 39 #[.slice Af nf cf, .bool sf]) := hs 0 (by decide)
      obtain ⟨g8, hg8⟩ := p50
      rw [hg8, show blkOf (.slice (some ⟨g8, 0, none⟩) 1 1) = g8 from rfl] at h1
      obtain ⟨v9, w9, hr, hS2, A9, c9, hv9⟩ := run_appL hS (k := 1) (j := 4) (ad := ⟨g8, 0, none⟩) (c := 1) (s := sf) (sg h2) (sg h0) (by decide) (by rw [(hS.box (sg h1)).cell]; rfl) (by rw [add_at, (hS.box (sg h1)).cell]; rfl) HLL.out 30
      exact rs_run (wanted_none rfl) (exec_app rfl (by simp only [Act.eval]; exact e48) (by simp only [Act.eval]; exact e50.trans hg8) hr) (sp_set2 1 4 (.lines v9 (((Ls.take i).map (fun l : Ln => (fitTo cols l.1, l.2))) ++ [((fitTo cols Ls[i].1), sf)])) .none (by decide) (by kernel_rfl) (by simp) (by simp) (by decide) (by decide) hl hs (by rfl) (by rfl) hS2 ⟨A9, _, c9, hv9⟩)
    refine SSteps.cons (fun a w' vs σ hS hl hs hk => ?_) ?_
    · have e44 : a.tmps.getD 44 undef = (.pointer (some ⟨p, 0, none⟩) : Value) := (sk_val hk 0 (by kernel_rfl) rfl rfl).trans ((hk.1 0 (by kernel_rfl)).1)
      have f44 := gd e44
      exact ro_pure (v := .pointer (some ⟨p, 0, none⟩)) (wanted_none rfl) (by simp [execOp, Act.eval, e44, f44, go_sem]) (sp_same (by kernel_rfl) hl hs hS (show (.pointer (some ⟨p, 0, none⟩) : Value) = _ from rfl)) trivial
    refine SSteps.cons (fun a w' vs σ hS hl hs hk => ?_) ?_
    · have e52 : a.tmps.getD 52 undef = (.pointer (some ⟨p, 0, none⟩) : Value) := (sk_val hk 8 (by kernel_rfl) rfl rfl).trans ((hk.1 8 (by kernel_rfl)).1)
      have f52 := gd e52
      exact ro_pure (v := .pointer (some ⟨p, 1, none⟩)) (wanted_none rfl) (by simp [execOp, Act.eval, e52, f52, go_sem]) (sp_same (by kernel_rfl) hl hs hS (show (.pointer (some ⟨p, 1, none⟩) : Value) = _ from rfl)) trivial
    refine SSteps.cons (fun a w' vs σ hS hl hs hk => ?_) ?_
    · have e53 : a.tmps.getD 53 undef = (.pointer (some ⟨p, 1, none⟩) : Value) := (sk_val hk 9 (by kernel_rfl) rfl rfl).trans ((hk.1 9 (by kernel_rfl)).1)
      have f53 := gd e53
      have e51 : a.tmps.getD 51 undef = vs 7 := sk_val hk 7 (by kernel_rfl) rfl rfl
      have p51 : (fun u : Value => ∃ A n c, u = .slice A n c) (vs 7) := (hk.1 7 (by kernel_rfl)).1
      have f51 := gd e51
      have h3 : σ[2]? = some (.box p 58 #[.int .i64 ↑cols, v]) := hs 2 (by decide)
      obtain ⟨hx, hf, hz⟩ := (hS.box (sg h3)).facts
      obtain ⟨A9, n9, c9, q9⟩ := p51
      exact rstep_store (w2 := w'.setCell ⟨p, 1, none⟩ (.slice A9 n9 c9)) (wanted_none rfl) rfl (by simp [execOp, Act.eval, e53, f53, e51, f51, q9, hx, hf, hz, go_sem]) (sp_set 2 (.box p 58 #[.int .i64 ↑cols, vs 7]) (by kernel_rfl) (by simp) (by decide) hl hs (by rfl) (by rw [q9]; exact hS.setBox 2 (sg h3)) trivial) trivial
    exact SSteps.nil
  · intro vs w' hS hv
    have q0 := (show vs 0 = (.pointer (some ⟨p, 0, none⟩) : Value) from hv 0 (by decide))
    have q1 := (show vs 1 = (.pointer (some ⟨p, 0, none⟩) : Value) from hv 1 (by decide))
    have q2 := (show vs 2 = (.pointer (some ⟨p, 0, none⟩) : Value) from hv 2 (by decide))
    have q3 := (show vs 3 = (.pointer (some ⟨p, 1, none⟩) : Value) from hv 3 (by decide))
    have q4 := (show vs 4 = (v : Value) from hv 4 (by decide))
    have q5 := (show vs 5 = (.agg #[.slice Af nf cf, .bool sf] : Value) from hv 5 (by decide))
    have q8 := (show vs 8 = (.pointer (some ⟨p, 0, none⟩) : Value) from hv 8 (by decide))
    have q9 := (show vs 9 = (.pointer (some ⟨p, 1, none⟩) : Value) from hv 9 (by decide))
    have S2 := Lib.hid hS
    simp only [putL, Act.put, Nat.zero_add, Nat.reduceAdd, List.setIfInBounds_toArray, List.set_cons_succ, List.set_cons_zero, q0, q1, q2, q3, q4, q5, q8, q9]
    clear hS hv q0 q1 q2 q3 q4 q5 q8 q9
    have S3 := Lib.hid ((((show Objs w _ (_ :: _ :: _ :: _ :: _ :: []) from S2.out).del 4).del 3).del 0)
    clear S2
    go_wp2_with fail
    go_roundw
    case rel => exact ⟨i + 1, vs 7, by omega, by go_num, Lib.hid (fun k hk h => by rcases Nat.lt_or_ge k i with h' | h'; (exact HALL.out k hk h'); (obtain rfl : k = i := by omega); exact HVI.out), by have h := S3.out; rw [fit_snoc hlt (by rw [← HSF.out])] at h; exact h⟩
    case measure => simp [intOf]; omega
theorem gridOf_arg (A : Option Addr) (c n : Nat) (cols : Int) (w : World) (hn : n ≤ 9223372036854775807) (h : n < 1 ∨ 1000 < n ∨ cols < 1 ∨ 1000 < cols) : Calls Tryd.prog 23 #[.int .i64 cols, .slice A n c] w fun e w' => e = .returned (.tuple #[.pointer none, .int .i64 2]) ∧ w = w' := by
  have h' : (n : Int) < 1 ∨ ((1 : Int) ≤ n ∧ (1000 : Int) < n) ∨ (((1 : Int) ≤ n ∧ (n : Int) ≤ 1000) ∧ cols < 1) ∨ (((1 : Int) ≤ n ∧ (n : Int) ≤ 1000) ∧ 1 ≤ cols ∧ 1000 < cols) := by omega
  clear h
  rcases h' with h | ⟨h, h2⟩ | ⟨⟨h, h2⟩, h3⟩ | ⟨⟨h, h2⟩, h3, h4⟩
  all_goals
    go_enter Tryd.func23, Tryd.ntmps23
    go_wp2_with fail
    go_ret2
    exact ⟨rfl, rfl⟩
end Go.Proofs.YtppijfjigcoifaaDoor

/-
  What a grid's methods answer where there is no grid: nil, or a zero one.
-/
set_option linter.unusedSimpArgs false
set_option linter.unusedVariables false
namespace Go.Proofs.YtppijfjigcoifaaDoor
open Go.RowKit

def NoneG (w : World) (gp : Value) : Prop := ∀ w', Below w.heap.size w w' → Calls Tryd.prog 57 #[gp] w' fun e w2 => e = .returned (.bool true) ∧ Below w'.heap.size w' w2
theorem noneG_nil (w : World) : NoneG w (.pointer none) := fun w' _ => (none_nil w').mono fun e w2 ⟨h1, h2⟩ => ⟨h1, h2 ▸ Below.refl _ _⟩
theorem none_blk {w : World} {p : Nat} {t : TypeId} (h : Blk w p t #[.int .i64 0, .slice none 0 0]) : Calls Tryd.prog 57 #[.pointer (some ⟨p, 0, none⟩)] w fun e w2 => e = .returned (.bool true) ∧ Below w.heap.size w w2 := by
  obtain ⟨hx, hf, hz⟩ := h.facts
  go_enter Tryd.func57, Tryd.ntmps57
  go_wp2_with fail
  go_ret
  exact ⟨rfl, Below.refl _ _⟩
theorem none_nob {w : World} {p cols : Nat} {t : TypeId} {v : Value} (h : Blk w p t #[.int .i64 cols, v]) (hc : 0 < cols) : Calls Tryd.prog 57 #[.pointer (some ⟨p, 0, none⟩)] w fun e w2 => e = .returned (.bool false) ∧ Below w.heap.size w w2 := by
  obtain ⟨hx, hf, hz⟩ := h.facts
  have h0 : ((cols : Int) == 0) = false := by rw [beq_eq_false_iff_ne]; omega
  have h1 : ¬ cols = 0 := by omega
  go_enter Tryd.func57, Tryd.ntmps57
  go_wp2_with fail
  go_ret
  exact ⟨rfl, Below.refl _ _⟩
theorem noneG_zero {w : World} {p : Nat} {t : TypeId} (h : Blk w p t #[.int .i64 0, .slice none 0 0]) : NoneG w (.pointer (some ⟨p, 0, none⟩)) := fun w' hb => none_blk (h.bel hb)
theorem NoneG.bel {w w' : World} {gp : Value} (h : NoneG w gp) (hb : Below w.heap.size w w') : NoneG w' gp := fun w2 hb2 => h w2 (hb.trans (hb2.mono hb.size))
section
variable {w : World} {gp : Value}
set_option maxHeartbeats 1000000 in
theorem there_z {i : Int} (hr : NoneG w gp) : Calls Tryd.prog 84 #[gp, .int .i64 i] w fun e w' => e = .returned (.int .i64 1) ∧ Below w.heap.size w w' := by
  have HR := Lib.hid hr
  clear hr
  go_enter Tryd.func84, Tryd.ntmps84
  go_wp2_with fail
  refine (HR.out _ (Below.refl _ _)).mono ?_
  rintro e w1 ⟨rfl, hb⟩
  have HB := Lib.hid hb
  clear hb
  go_wp2_with fail
  go_ret
  exact ⟨rfl, HB.out⟩
set_option maxHeartbeats 1000000 in
theorem at_z {i j : Int} (hr : NoneG w gp) : Calls Tryd.prog 71 #[gp, .int .i64 i, .int .i64 j] w fun e w' => e = .returned (.int .i64 1) ∧ Below w.heap.size w w' := by
  have HR := Lib.hid hr
  clear hr
  go_enter Tryd.func71, Tryd.ntmps71
  go_wp2_with fail
  refine (there_z HR.out).mono ?_
  rintro e w1 ⟨rfl, hb⟩
  have HB := Lib.hid hb
  clear hb
  go_wp2_with fail
  go_ret
  exact ⟨rfl, HB.out⟩
set_option maxHeartbeats 1000000 in
theorem Lines_z (hr : NoneG w gp) : Calls Tryd.prog 20 #[gp] w fun e w' => e = .returned (.slice none 0 0) ∧ Below w.heap.size w w' := by
  have HR := Lib.hid hr
  clear hr
  go_enter Tryd.func20, Tryd.ntmps20
  go_wp2_with fail
  refine (HR.out _ (Below.refl _ _)).mono ?_
  rintro e w1 ⟨rfl, hb⟩
  have HB := Lib.hid hb
  clear hb
  go_wp2_with fail
  go_ret
  exact ⟨rfl, HB.out⟩
set_option maxHeartbeats 1000000 in
theorem Copy_z (hr : NoneG w gp) : Calls Tryd.prog 44 #[gp] w fun e w' => e = .returned (.pointer none) ∧ Below w.heap.size w w' := by
  have HR := Lib.hid hr
  clear hr
  go_enter Tryd.func44, Tryd.ntmps44
  go_wp2_with fail
  refine (HR.out _ (Below.refl _ _)).mono ?_
  rintro e w1 ⟨rfl, hb⟩
  have HB := Lib.hid hb
  clear hb
  go_wp2_with fail
  go_ret
  exact ⟨rfl, HB.out⟩
set_option maxHeartbeats 1000000 in
theorem Same_z1 {hp : Value} (hr : NoneG w gp) : Calls Tryd.prog 47 #[gp, hp] w fun e w' => e = .returned (.bool false) ∧ Below w.heap.size w w' := by
  have HR := Lib.hid hr
  clear hr
  go_enter Tryd.func47, Tryd.ntmps47
  go_wp2_with fail
  refine (HR.out _ (Below.refl _ _)).mono ?_
  rintro e w1 ⟨rfl, hb⟩
  have HB := Lib.hid hb
  clear hb
  go_wp2_with fail
  go_ret
  exact ⟨rfl, HB.out⟩
set_option maxHeartbeats 1000000 in
theorem SetSoft_z {i : Int} {b : Bool} (hr : NoneG w gp) : Calls Tryd.prog 46 #[gp, .int .i64 i, .bool b] w fun e w' => e = .returned (.int .i64 1) ∧ Below w.heap.size w w' := by
  have HR := Lib.hid hr
  clear hr
  go_enter Tryd.func46, Tryd.ntmps46
  go_wp2_with fail
  refine (there_z HR.out).mono ?_
  rintro e w1 ⟨rfl, hb⟩
  have HB := Lib.hid hb
  clear hb
  go_wp2_with fail
  go_ret
  exact ⟨rfl, HB.out⟩
set_option maxHeartbeats 1000000 in
theorem Put_z {i j : Int} {x : Cell} (hr : NoneG w gp) : Calls Tryd.prog 33 #[gp, .int .i64 i, .int .i64 j, .agg (cv x)] w fun e w' => e = .returned (.int .i64 1) ∧ Below w.heap.size w w' := by
  have HR := Lib.hid hr
  clear hr
  go_enter Tryd.func33, Tryd.ntmps33
  go_upto_region 1 with (fail)
  refine at_objsC (objs_start w).alloc1 (fun W hW => ?_)
  have S1 := Lib.hid hW
  clear hW
  go_wp2_with fail
  refine (at_z (HR.out.bel S1.out.base)).mono ?_
  rintro e w1 ⟨rfl, hb⟩
  have S2 := Lib.hid (S1.out.bel hb)
  clear hb S1
  go_wp2_with fail
  go_ret
  exact ⟨rfl, S2.out.base⟩
set_option maxHeartbeats 1000000 in
theorem Shift_z {i j n : Int} (q : Pen) (hr : NoneG w gp) : Calls Tryd.prog 52 #[gp, .int .i64 i, .int .i64 j, .int .i64 n, .agg (pv q)] w fun e w' => e = .returned (.int .i64 1) ∧ Below w.heap.size w w' := by
  have HR := Lib.hid hr
  clear hr
  go_enter Tryd.func52, Tryd.ntmps52
  go_upto_region 1 with (fail)
  refine at_objsC (objs_start w).alloc1 (fun W hW => ?_)
  have S1 := Lib.hid hW
  clear hW
  go_wp2_with fail
  refine (at_z (HR.out.bel S1.out.base)).mono ?_
  rintro e w1 ⟨rfl, hb⟩
  have S2 := Lib.hid (S1.out.bel hb)
  clear hb S1
  go_wp2_with fail
  go_ret
  exact ⟨rfl, S2.out.base⟩
set_option maxHeartbeats 1000000 in
theorem Roll_z {top bot n : Int} (q : Pen) (hr : NoneG w gp) : Calls Tryd.prog 50 #[gp, .agg #[.int .i64 top, .int .i64 bot], .int .i64 n, .agg (pv q)] w fun e w' => e = .returned (.tuple #[.slice none 0 0, .int .i64 1]) ∧ Below w.heap.size w w' := by
  have HR := Lib.hid hr
  clear hr
  go_enter Tryd.func50, Tryd.ntmps50
  go_upto_region 1 with (fail)
  refine at_objsC (objs_start w).alloc2 (fun W hW => ?_)
  have S1 := Lib.hid hW
  clear hW
  go_wp2_with fail
  refine (HR.out _ S1.out.base).mono ?_
  rintro e w1 ⟨rfl, hb⟩
  have S2 := Lib.hid (S1.out.bel hb)
  clear hb S1
  go_wp2_with fail
  go_ret2
  exact ⟨rfl, S2.out.base⟩
set_option maxHeartbeats 1000000 in
theorem Line_z {i : Int} (hr : NoneG w gp) : Calls Tryd.prog 49 #[gp, .int .i64 i] w fun e w' => e = .returned (.tuple #[.agg #[.slice none 0 0, .bool false], .int .i64 1]) ∧ Below w.heap.size w w' := by
  have HR := Lib.hid hr
  clear hr
  go_enter Tryd.func49, Tryd.ntmps49
  go_upto_region 1 with (fail)
  refine at_objsC (objs_start w).alloc1 (fun W hW => ?_)
  have S1 := Lib.hid hW
  clear hW
  go_wp2_with fail
  refine (there_z (HR.out.bel S1.out.base)).mono ?_
  rintro e w1 ⟨rfl, hb⟩
  have S2 := Lib.hid (S1.out.bel hb)
  clear hb S1
  obtain ⟨hx8, hf8, hz8⟩ := (S2.out.box (k := 0) rfl).facts
  go_wp2_with fail
  have SF := Lib.hid (S2.out.setBox2 (u := .slice none 0 0) (v := .bool false) (k := 0) rfl)
  (try simp only [Exit.inBlock, Exit.then])
  refine bodyPost_ret (results_cell2 Tryd.results49 _ _ _ 39 _ _ rfl (SF.out.box (k := 0) rfl) Tryd.underlying39 rfl line_size) rfl ?_
  exact ⟨rfl, SF.out.base⟩
set_option maxHeartbeats 1000000 in
theorem Cell_z {i j : Int} (hr : NoneG w gp) : Calls Tryd.prog 48 #[gp, .int .i64 i, .int .i64 j] w fun e w' => e = .returned (.tuple #[.agg (cv cell0), .int .i64 1]) ∧ Below w.heap.size w w' := by
  have HR := Lib.hid hr
  clear hr
  go_enter Tryd.func48, Tryd.ntmps48
  go_upto_region 1 with (fail)
  refine at_objsC (objs_start w).alloc1 (fun W hW => ?_)
  have S1 := Lib.hid hW
  clear hW
  go_wp2_with fail
  refine (at_z (HR.out.bel S1.out.base)).mono ?_
  rintro e w1 ⟨rfl, hb⟩
  have S2 := Lib.hid (S1.out.bel hb)
  clear hb S1
  obtain ⟨hx8, hf8, hz8⟩ := (S2.out.box (k := 0) rfl).facts
  have hst := store_cv_row w1 w.heap.size _ ⟨0, 0, 0, 0, 0, pen0⟩ (S2.out.box (k := 0) rfl) (cv_size _)
  go_wp2_with fail
  have SF := Lib.hid (S2.out.rowBox (ds := cv cell0) 0 rfl)
  (try simp only [Exit.inBlock, Exit.then])
  refine bodyPost_ret (results_cell2 Tryd.results48 _ _ _ 71 _ _ rfl (SF.out.box (k := 0) rfl) Tryd.underlying71 rfl cell_size) rfl ?_
  exact ⟨rfl, SF.out.base⟩
end
section
variable {w0 w : World} {os : List Ob} {k p cols : Nat} {L : List Ln} {gp : Value}
set_option maxHeartbeats 1000000 in
theorem Same_z2 (hr : NoneG w gp) (hS : Objs w0 w os) (hk : os[k]? = some (.grid p 58 cols L)) (hc : 0 < cols) : Calls Tryd.prog 47 #[.pointer (some ⟨p, 0, none⟩), gp] w fun e w' => e = .returned (.bool false) ∧ Objs w0 w' os := by
  have HR := Lib.hid hr
  have S := Lib.hid hS
  have HK := Lib.hid hk
  obtain ⟨A9, c9, hB9⟩ := grid_blk hS hk
  have HBL := Lib.hid hB9
  clear hr hS hk hB9
  go_enter Tryd.func47, Tryd.ntmps47
  go_wp2_with fail
  refine (none_nob HBL.out hc).mono ?_
  rintro e w1 ⟨rfl, hb⟩
  have S1 := Lib.hid (S.out.bel hb)
  have HR1 := Lib.hid (HR.out.bel hb)
  clear hb S HR
  go_wp2_with fail
  refine (HR1.out _ (Below.refl _ _)).mono ?_
  rintro e w2 ⟨rfl, hb⟩
  have S2 := Lib.hid (S1.out.bel hb)
  clear hb S1
  go_wp2_with fail
  go_ret
  exact ⟨rfl, S2.out⟩
end
end Go.Proofs.YtppijfjigcoifaaDoor

/-
  More of the grid's methods where there is no grid.
-/
set_option linter.unusedSimpArgs false
set_option linter.unusedVariables false
namespace Go.Proofs.YtppijfjigcoifaaDoor
open Go.RowKit

section
variable {w : World} {gp : Value}
theorem Rows_blk {p : Nat} {t : TypeId} (h : Blk w p t #[.int .i64 0, .slice none 0 0]) : Calls Tryd.prog 17 #[.pointer (some ⟨p, 0, none⟩)] w fun e w' => e = .returned (.int .i64 0) ∧ w = w' := by
  obtain ⟨hx, hf, hz⟩ := h.facts
  go_enter Tryd.func17, Tryd.ntmps17
  go_wp2_with fail
  go_ret
  exact ⟨rfl, rfl⟩
theorem Cols_blk {p : Nat} {t : TypeId} (h : Blk w p t #[.int .i64 0, .slice none 0 0]) : Calls Tryd.prog 18 #[.pointer (some ⟨p, 0, none⟩)] w fun e w' => e = .returned (.int .i64 0) ∧ w = w' := by
  obtain ⟨hx, hf, hz⟩ := h.facts
  go_enter Tryd.func18, Tryd.ntmps18
  go_wp2_with fail
  go_ret
  exact ⟨rfl, rfl⟩
set_option maxHeartbeats 1000000 in
theorem Clear_z {i f t : Int} (q : Pen) (hr : NoneG w gp) : Calls Tryd.prog 51 #[gp, .int .i64 i, .int .i64 f, .int .i64 t, .agg (pv q)] w fun e w' => e = .returned (.int .i64 1) ∧ Below w.heap.size w w' := by
  have HR := Lib.hid hr
  clear hr
  go_enter Tryd.func51, Tryd.ntmps51
  go_upto_region 1 with (fail)
  refine at_objsC (objs_start w).alloc1 (fun W hW => ?_)
  have S1 := Lib.hid hW
  clear hW
  go_wp2_with fail
  refine (there_z (HR.out.bel S1.out.base)).mono ?_
  rintro e w1 ⟨rfl, hb⟩
  have S2 := Lib.hid (S1.out.bel hb)
  clear hb S1
  go_wp2_with fail
  go_ret
  exact ⟨rfl, S2.out.base⟩
set_option maxHeartbeats 1000000 in
theorem SetLine_z {i : Int} {v : Value} {s : Bool} (hr : NoneG w gp) : Calls Tryd.prog 53 #[gp, .int .i64 i, .agg #[v, .bool s]] w fun e w' => e = .returned (.int .i64 1) ∧ Below w.heap.size w w' := by
  have HR := Lib.hid hr
  clear hr
  go_enter Tryd.func53, Tryd.ntmps53
  go_upto_region 1 with (fail)
  refine at_objsC (objs_start w).alloc1 (fun W hW => ?_)
  have S1 := Lib.hid hW
  clear hW
  go_wp2_with fail
  refine (there_z (HR.out.bel S1.out.base)).mono ?_
  rintro e w1 ⟨rfl, hb⟩
  have S2 := Lib.hid (S1.out.bel hb)
  clear hb S1
  go_wp2_with fail
  go_ret
  exact ⟨rfl, S2.out.base⟩
end
end Go.Proofs.YtppijfjigcoifaaDoor

/-
  From a walk to the row: what the row's list of variables gives, what arguments look like, and a law's last step.
-/
set_option linter.unusedSimpArgs false
set_option linter.unusedVariables false
set_option linter.constructorNameAsVariable false
set_option maxRecDepth 100000
namespace Go.Proofs.YtppijfjigcoifaaDoor
open Go.ChangeShapes Go.WideShapes Go.ChangeAt Go.RowKit Go.Deep Go.WideElems

section
variable {H : Type} {enc : TypeId × Value → H}

theorem trodAll_below {P : Program} (hl : laidOutB P = true) {W W' : World} (hb : Below W.heap.size W W') {sp : Nat → Bool} : ∀ (ts : List TypeId) (vs : List Value) (ds : List (DataW H)) (ps : List MemPlace), (∀ t ∈ ts, P.readableRec t = true ∧ t < P.types.size) →
    DataW.TrodAll enc P W 0 (fun _ => true) true ts vs ds ps → (∀ x ∈ ps, x.block < W.heap.size) → (∀ x ∈ ps, sp x.block = true) → DataW.TrodAll enc P W' 0 sp true ts vs ds ps
  | [], [], [], ps, _, h, _, _ => h
  | t :: ts, v :: vs, d :: ds, ps, ht, h, hlt, hs => by
    obtain ⟨p, q, h1, h2, rfl⟩ := h
    exact ⟨p, q, Trod_stays hl (ht t (by simp)).1 (ht t (by simp)).2 h1 (fun x hx => hb.same (hlt x (by simp [hx]))) (fun x hx => hs x (by simp [hx])),
      trodAll_below hl hb ts vs ds q (fun u hu => ht u (by simp [hu])) h2 (fun x hx => hlt x (by simp [hx])) (fun x hx => hs x (by simp [hx])), rfl⟩
  | [], _ :: _, _, _, _, h, _, _ => by cases h
  | [], [], _ :: _, _, _, h, _, _ => by cases h
  | _ :: _, [], _, _, _, h, _, _ => by cases h
  | _ :: _, _ :: _, [], _, _, h, _, _ => by cases h

/-- The last step of a law: it has returned true and made memory alone. -/
theorem law_post {P : Program} {f : Func} {s : ChangeSpec} {W W' : World} {args : Array Value} {ds gs : List (DataW H)} {before : List MemPlace} {tb : TypeId} (hv : s.vars = []) (hl : laidOutB P = true)
    (hW : DataW.Whole enc P f.params.toList s.vars false W args.toList ds gs before) (hpar : ∀ t ∈ f.params.toList, P.readableRec t = true ∧ t < P.types.size)
    (hfn : gs = [] → (s.fn H (ds ++ gs)).results = [.lit (.bool true)] ∧ (s.fn H (ds ++ gs)).args = ds ∧ (s.fn H (ds ++ gs)).vars = []) (hr : f.resultTypes = #[tb]) (htb : P.underlying tb = some .bool) (hb : Below W.heap.size W W') :
    s.post enc P f false true false false W args (.bool true) W' := by
  have hlt : ∀ p ∈ before, p.block < W.heap.size := fun p hp => hW.lt p hp
  have hW' := hW
  obtain ⟨p, q, hA, hV, rfl, hfz, hnd⟩ := hW
  rw [hv] at hV
  obtain ⟨rfl, rfl⟩ := trodVars_none hV
  obtain ⟨f1, f2, f3⟩ := hfn rfl
  have hargs : ∀ sp : Nat → Bool, (∀ x ∈ p, sp x.block = true) → DataW.TrodAll enc P W' 0 sp true f.params.toList args.toList (s.fn H (ds ++ [])).args p := fun sp hs => by
    rw [f2]; exact trodAll_below hl hb _ _ _ _ hpar hA (fun x hx => hlt x (by simp [hx])) hs
  have hres : ∀ (b : Nat) (sp : Nat → Bool) (hd : Bool), DataW.TrodAll enc P W' b sp hd f.resultTypes.toList ((Value.bool true).resultList f.resultTypes.size) (s.fn H (ds ++ [])).results [] := fun b sp hd => by
    rw [f1, hr]; exact trodAll_cons_mk (shut_bool htb _) trodAll_mk0
  have hvars : ∀ sp : Nat → Bool, DataW.TrodVars enc P W' sp s.vars (s.fn H (ds ++ [])).vars [] := fun sp => by rw [hv, f3]; rfl
  have hold : ∀ x ∈ p, (fun b => decide (b < W.heap.size)) x.block = true := fun x hx => by simpa using hlt x (by simp [hx])
  refine ⟨ds, [], p ++ [], [], p, [], hW', hres _ _ _, hargs _ hold, hvars _, World.keptBut_mono (fun x hx => ⟨hx, ?_⟩) (hb.frame (· ∈ p ++ [])), fun h => by cases h⟩
  exact Or.inr (by simpa using hx)

section
variable {w : World} {base : Nat} {sp : Nat → Bool} {hd : Bool} {fuel : Nat} {cs : List Value} {x : DataW H × List MemPlace}
theorem cells_color : Tryd.prog.cellsOf 51 = 5 := by kernel_rfl
theorem cells_pen : Tryd.prog.cellsOf 54 = 11 := by kernel_rfl
theorem cells_cell : Tryd.prog.cellsOf 71 = 16 := by kernel_rfl
theorem cells_arr3 : Tryd.prog.cellsOf 69 = 3 := by kernel_rfl
theorem cells_i32 : Tryd.prog.cellsOf 21 = 1 := by kernel_rfl
theorem cells_int : Tryd.prog.cellsOf 3 = 1 := by kernel_rfl
theorem cells_u8 : Tryd.prog.cellsOf 5 = 1 := by kernel_rfl
theorem cells_kind : Tryd.prog.cellsOf 49 = 1 := by kernel_rfl
theorem cells_flags : Tryd.prog.cellsOf 52 = 1 := by kernel_rfl
/-- A field that is a number. -/
theorem num_field {P : Program} {t : TypeId} {k : IntKind} {c : Value} {y : Option (DataW H × List MemPlace)} (ht : P.underlying t = some (.int k)) (hy : y.isSome = true) (h : DataW.trod enc P w base sp hd fuel t [c] = y) : ∃ n, c = .int k n := by
  obtain ⟨z, hz⟩ := Option.isSome_iff_exists.1 hy
  obtain ⟨n, hn, _⟩ := DataW.trod_int ht (h.trans hz)
  exact ⟨n, by simpa using hn⟩
theorem trod_color (h : DataW.trod enc Tryd.prog w base sp hd fuel 51 cs = some x) : ∃ k i r g b, cs = [.int .i64 k, .int .u8 i, .int .u8 r, .int .u8 g, .int .u8 b] := by
  obtain ⟨xs, n, _, _, hlen, hxl, hf⟩ := DataW.trod_struct Tryd.underlying51 h
  rw [cells_color] at hlen
  match cs, hlen, hf with
  | [c0, c1, c2, c3, c4], _, hf =>
    have h0 : DataW.trod enc Tryd.prog w base sp hd n 49 (([c0, c1, c2, c3, c4].drop 0).take (Tryd.prog.cellsOf 49)) = xs[0]? := hf 0 _ rfl
    have h1 : DataW.trod enc Tryd.prog w base sp hd n 5 (([c0, c1, c2, c3, c4].drop 1).take (Tryd.prog.cellsOf 5)) = xs[1]? := hf 1 _ rfl
    have h2 : DataW.trod enc Tryd.prog w base sp hd n 5 (([c0, c1, c2, c3, c4].drop 2).take (Tryd.prog.cellsOf 5)) = xs[2]? := hf 2 _ rfl
    have h3 : DataW.trod enc Tryd.prog w base sp hd n 5 (([c0, c1, c2, c3, c4].drop 3).take (Tryd.prog.cellsOf 5)) = xs[3]? := hf 3 _ rfl
    have h4 : DataW.trod enc Tryd.prog w base sp hd n 5 (([c0, c1, c2, c3, c4].drop 4).take (Tryd.prog.cellsOf 5)) = xs[4]? := hf 4 _ rfl
    simp only [cells_kind, cells_u8, List.drop_zero, List.drop_succ_cons, List.take_succ_cons, List.take_zero] at h0 h1 h2 h3 h4
    obtain ⟨k, rfl⟩ := num_field Tryd.underlying49 (by simp [hxl]) h0
    obtain ⟨i, rfl⟩ := num_field Tryd.underlying5 (by simp [hxl]) h1
    obtain ⟨r, rfl⟩ := num_field Tryd.underlying5 (by simp [hxl]) h2
    obtain ⟨g, rfl⟩ := num_field Tryd.underlying5 (by simp [hxl]) h3
    obtain ⟨b, rfl⟩ := num_field Tryd.underlying5 (by simp [hxl]) h4
    exact ⟨k, i, r, g, b, rfl⟩
theorem some_of {α : Type} {y : Option α} (h : y.isSome = true) : ∃ z, y = some z := Option.isSome_iff_exists.1 h
theorem trod_pen (h : DataW.trod enc Tryd.prog w base sp hd fuel 54 cs = some x) : ∃ q : Pen, cs = (pv q).toList := by
  obtain ⟨xs, n, _, _, hlen, hxl, hf⟩ := DataW.trod_struct Tryd.underlying54 h
  rw [cells_pen] at hlen
  have h0 : DataW.trod enc Tryd.prog w base sp hd n 51 ((cs.drop 0).take (Tryd.prog.cellsOf 51)) = xs[0]? := hf 0 _ rfl
  have h1 : DataW.trod enc Tryd.prog w base sp hd n 51 ((cs.drop 5).take (Tryd.prog.cellsOf 51)) = xs[1]? := hf 1 _ rfl
  have h2 : DataW.trod enc Tryd.prog w base sp hd n 52 ((cs.drop 10).take (Tryd.prog.cellsOf 52)) = xs[2]? := hf 2 _ rfl
  obtain ⟨z0, e0⟩ := some_of (show (xs[0]?).isSome = true by simp [hxl])
  obtain ⟨z1, e1⟩ := some_of (show (xs[1]?).isSome = true by simp [hxl])
  simp only [cells_color, cells_flags] at h0 h1 h2
  obtain ⟨k, i, r, g, b, hc0⟩ := trod_color (h0.trans e0)
  obtain ⟨k', i', r', g', b', hc1⟩ := trod_color (h1.trans e1)
  match cs, hlen with
  | [c0, c1, c2, c3, c4, c5, c6, c7, c8, c9, c10], _ =>
    simp only [List.drop_zero, List.drop_succ_cons, List.take_succ_cons, List.take_zero] at h2 hc0 hc1
    obtain ⟨fl, rfl⟩ := num_field Tryd.underlying52 (by simp [hxl]) h2
    simp only [List.cons.injEq, and_true] at hc0 hc1
    obtain ⟨rfl, rfl, rfl, rfl, rfl⟩ := hc0
    obtain ⟨rfl, rfl, rfl, rfl, rfl⟩ := hc1
    exact ⟨⟨k, i, r, g, b, k', i', r', g', b', fl⟩, rfl⟩
theorem trod_arr3 (h : DataW.trod enc Tryd.prog w base sp hd fuel 69 cs = some x) : ∃ a b c, cs = [.int .i32 a, .int .i32 b, .int .i32 c] := by
  obtain ⟨xs, n, _, _, hlen, hxl, hf⟩ := DataW.trod_array Tryd.underlying69 h
  rw [cells_arr3] at hlen
  match cs, hlen with
  | [c0, c1, c2], _ =>
    have h0 := hf 0 (by omega)
    have h1 := hf 1 (by omega)
    have h2 := hf 2 (by omega)
    simp only [cells_i32, Nat.zero_mul, Nat.one_mul, Nat.mul_one, List.drop_zero, List.drop_succ_cons, List.take_succ_cons, List.take_zero] at h0 h1 h2
    obtain ⟨a, rfl⟩ := num_field Tryd.underlying21 (by simp [hxl]) h0
    obtain ⟨b, rfl⟩ := num_field Tryd.underlying21 (by simp [hxl]) h1
    obtain ⟨c, rfl⟩ := num_field Tryd.underlying21 (by simp [hxl]) h2
    exact ⟨a, b, c, rfl⟩
theorem trod_cell (h : DataW.trod enc Tryd.prog w base sp hd fuel 71 cs = some x) : ∃ q : Cell, cs = (cv q).toList := by
  obtain ⟨xs, n, _, _, hlen, hxl, hf⟩ := DataW.trod_struct Tryd.underlying71 h
  rw [cells_cell] at hlen
  have h0 : DataW.trod enc Tryd.prog w base sp hd n 21 ((cs.drop 0).take (Tryd.prog.cellsOf 21)) = xs[0]? := hf 0 _ rfl
  have h1 : DataW.trod enc Tryd.prog w base sp hd n 69 ((cs.drop 1).take (Tryd.prog.cellsOf 69)) = xs[1]? := hf 1 _ rfl
  have h2 : DataW.trod enc Tryd.prog w base sp hd n 3 ((cs.drop 4).take (Tryd.prog.cellsOf 3)) = xs[2]? := hf 2 _ rfl
  have h3 : DataW.trod enc Tryd.prog w base sp hd n 54 ((cs.drop 5).take (Tryd.prog.cellsOf 54)) = xs[3]? := hf 3 _ rfl
  obtain ⟨z1, e1⟩ := some_of (show (xs[1]?).isSome = true by simp [hxl])
  obtain ⟨z3, e3⟩ := some_of (show (xs[3]?).isSome = true by simp [hxl])
  simp only [cells_i32, cells_arr3, cells_int, cells_pen] at h0 h1 h2 h3
  obtain ⟨m0, m1, m2, hm⟩ := trod_arr3 (h1.trans e1)
  obtain ⟨q, hq⟩ := trod_pen (h3.trans e3)
  match cs, hlen with
  | [c0, c1, c2, c3, c4, c5, c6, c7, c8, c9, c10, c11, c12, c13, c14, c15], _ =>
    simp only [List.drop_zero, List.drop_succ_cons, List.take_succ_cons, List.take_zero] at h0 h2 hm hq
    obtain ⟨r, rfl⟩ := num_field Tryd.underlying21 (by simp [hxl]) h0
    obtain ⟨wd, rfl⟩ := num_field Tryd.underlying3 (by simp [hxl]) h2
    simp only [List.cons.injEq, and_true] at hm
    obtain ⟨rfl, rfl, rfl⟩ := hm
    simp only [pv, List.cons.injEq, and_true] at hq
    obtain ⟨rfl, rfl, rfl, rfl, rfl, rfl, rfl, rfl, rfl, rfl, rfl⟩ := hq
    exact ⟨⟨r, m0, m1, m2, wd, q⟩, rfl⟩
end
/-- A slice of cells that came in, at a world. -/
theorem trod_cells {w : World} {fuel : Nat} {cs : List Value} {x : DataW H × List MemPlace} {hd : Bool} (h : DataW.trod enc Tryd.prog w 0 (fun _ => true) hd fuel 37 cs = some x) : ∃ A c l, cs = [.slice A l.length c] ∧ RdC w A c l ∧ c ≤ maxLen := by
  rcases open_slice Tryd.underlying37 h with ⟨rfl, _⟩ | ⟨a, len, cap, m, n, D, Pl, rfl, _, hl, hm, hmm, _, hi⟩
  · exact ⟨none, 0, [], rfl, RdC.nil _, by simp [maxLen]⟩
  · simp only [if_true] at hmm
    subst hmm
    rw [cells_cell] at hi
    have hall : ∀ i, i < len → ∃ c : Cell, ∀ j, j < 16 → w.cell? ((a.add (i * 16)).add j) = (cv c)[j]? := by
      intro i hlt
      obtain ⟨cs', hc, ht⟩ := hi i (by omega)
      obtain ⟨_, hcl, hat⟩ := World.cells?_some hc
      obtain ⟨c, rfl⟩ := trod_cell ht
      exact ⟨c, fun j hj => by rw [hat j hj]; simp⟩
    have hl2 : ∃ l : List Cell, l.length = len ∧ ∀ i (h : i < l.length), ∀ j, j < 16 → w.cell? ((a.add (i * 16)).add j) = (cv l[i])[j]? := by
      refine ⟨(List.range len).map fun i => if h : i < len then (hall i h).choose else cell0, by simp, fun i h j hj => ?_⟩
      have hlt : i < len := by simpa using h
      simp only [List.getElem_map, List.getElem_range, hlt, dif_pos]
      exact (hall i hlt).choose_spec j hj
    obtain ⟨l, rfl, hcell⟩ := hl2
    refine ⟨some a, m, l, rfl, ⟨hl, (fun h => by cases h), fun hn => ?_⟩, hm⟩
    have h00 := hcell 0 hn 0 (by omega)
    simp only [Nat.zero_mul, Addr.add_zero', cv_get0] at h00
    obtain ⟨b, off, spot⟩ := a
    have hspot : spot = none := by
      cases spot with
      | none => rfl
      | some q => simp [World.cell?] at h00; split at h00 <;> simp at h00
    subst hspot
    refine ⟨b, off, rfl, block_lt_of_cell h00, fun j v hv => ?_⟩
    have hj : j < (flat l).length := (List.getElem?_eq_some_iff.1 hv).1
    rw [flat_length] at hj
    have hk : j / 16 < l.length := by omega
    have := hcell (j / 16) hk (j % 16) (by omega)
    rw [add_at, add_at] at this
    rw [show off + j = off + j / 16 * 16 + j % 16 by omega, this, ← hv, ← flat_at l (j / 16) (j % 16) l[j / 16] (by simp [hk]) (by omega)]
    congr 1; omega
end
end Go.Proofs.YtppijfjigcoifaaDoor

/-
  What a line among the arguments looks like.
-/
set_option linter.unusedSimpArgs false
set_option linter.unusedVariables false
set_option linter.constructorNameAsVariable false
set_option maxRecDepth 100000
namespace Go.Proofs.YtppijfjigcoifaaDoor
open Go.ChangeShapes Go.WideShapes Go.ChangeAt Go.RowKit Go.Deep Go.WideElems

section
variable {H : Type} {enc : TypeId × Value → H}
theorem cells_line : Tryd.prog.cellsOf 39 = 2 := by kernel_rfl
theorem cells_slice : Tryd.prog.cellsOf 37 = 1 := by kernel_rfl
theorem cells_bool : Tryd.prog.cellsOf 4 = 1 := by kernel_rfl
theorem trod_line {w : World} {fuel : Nat} {cs : List Value} {x : DataW H × List MemPlace} {hd : Bool} (h : DataW.trod enc Tryd.prog w 0 (fun _ => true) hd fuel 39 cs = some x) : ∃ A c l s, cs = [.slice A l.length c, .bool s] ∧ RdC w A c l ∧ c ≤ maxLen := by
  obtain ⟨xs, n, _, _, hlen, hxl, hf⟩ := DataW.trod_struct Tryd.underlying39 h
  rw [cells_line] at hlen
  match cs, hlen, hf with
  | [c0, c1], _, hf =>
    have h0 : DataW.trod enc Tryd.prog w 0 (fun _ => true) hd n 37 (([c0, c1].drop 0).take (Tryd.prog.cellsOf 37)) = xs[0]? := hf 0 _ rfl
    have h1 : DataW.trod enc Tryd.prog w 0 (fun _ => true) hd n 4 (([c0, c1].drop 1).take (Tryd.prog.cellsOf 4)) = xs[1]? := hf 1 _ rfl
    obtain ⟨z0, e0⟩ := some_of (show (xs[0]?).isSome = true by simp [hxl])
    obtain ⟨z1, e1⟩ := some_of (show (xs[1]?).isSome = true by simp [hxl])
    simp only [cells_slice, cells_bool, List.drop_zero, List.drop_succ_cons, List.take_succ_cons, List.take_zero] at h0 h1
    obtain ⟨A, c, l, he, hr, hm⟩ := trod_cells (h0.trans e0)
    obtain ⟨b, hb, _⟩ := DataW.trod_bool Tryd.underlying4 (h1.trans e1)
    simp only [List.cons.injEq, and_true] at he hb
    subst he
    subst hb
    exact ⟨A, c, l, b, rfl, hr, hm⟩
end
end Go.Proofs.YtppijfjigcoifaaDoor

/-
  What cursors, and slices of records, look like among the arguments.
-/
set_option linter.unusedSimpArgs false
set_option linter.unusedVariables false
set_option linter.constructorNameAsVariable false
set_option maxRecDepth 100000
namespace Go.Proofs.YtppijfjigcoifaaDoor
open Go.ChangeShapes Go.WideShapes Go.ChangeAt Go.RowKit Go.Deep Go.WideElems

section
variable {H : Type} {enc : TypeId × Value → H}
/-- A slice of records, at a world. -/
theorem trod_recs {V : Type} [Inhabited V] {Pr : V → Prop} {w : World} {fuel : Nat} {cs : List Value} {x : DataW H × List MemPlace} {hd : Bool} {tS tE : TypeId} {k : Nat} (av : V → Array Value) (hu : Tryd.prog.underlying tS = some (.slice tE)) (hk : Tryd.prog.cellsOf tE = k) (hk0 : 0 < k) (hav : ∀ a, (av a).size = k)
    (helem : ∀ (fuel : Nat) (cs' : List Value) (x' : DataW H × List MemPlace), DataW.trod enc Tryd.prog w 0 (fun _ => true) hd fuel tE cs' = some x' → ∃ a, cs' = (av a).toList ∧ Pr a)
    (h : DataW.trod enc Tryd.prog w 0 (fun _ => true) hd fuel tS cs = some x) : ∃ (A : Option Addr) (c : Nat) (l : List V), cs = [.slice A l.length c] ∧ RdRec w A c k (l.map av) ∧ c ≤ maxLen ∧ ∀ a ∈ l, Pr a := by
  rcases open_slice hu h with ⟨rfl, _⟩ | ⟨a, len, cap, m, n, D, Pl, rfl, _, hl, hm, hmm, _, hi⟩
  · exact ⟨none, 0, [], rfl, ⟨by simp, fun _ => rfl, fun h => by simp at h⟩, by simp [maxLen], fun a ha => by simp at ha⟩
  · simp only [if_true] at hmm
    subst hmm
    rw [hk] at hi
    have hall : ∀ i, i < len → ∃ c : V, Pr c ∧ ∀ j, j < k → w.cell? ((a.add (i * k)).add j) = (av c)[j]? := by
      intro i hlt
      obtain ⟨cs', hc, ht⟩ := hi i (by omega)
      obtain ⟨_, hcl, hat⟩ := World.cells?_some hc
      obtain ⟨c, rfl, hp⟩ := helem _ _ _ ht
      exact ⟨c, hp, fun j hj => by rw [hat j hj]; simp⟩
    have hl2 : ∃ l : List V, l.length = len ∧ (∀ i (h : i < l.length), ∀ j, j < k → w.cell? ((a.add (i * k)).add j) = (av l[i])[j]?) ∧ ∀ c ∈ l, Pr c := by
      refine ⟨(List.range len).map fun i => if h : i < len then (hall i h).choose else default, by simp, fun i h j hj => ?_, fun c hc => ?_⟩
      · have hlt : i < len := by simpa using h
        simp only [List.getElem_map, List.getElem_range, hlt, dif_pos]
        exact (hall i hlt).choose_spec.2 j hj
      · obtain ⟨i, hi2, rfl⟩ := List.mem_map.1 hc
        have hlt : i < len := by simpa using hi2
        rw [dif_pos hlt]
        exact (hall i hlt).choose_spec.1
    obtain ⟨l, rfl, hcell, hpr⟩ := hl2
    refine ⟨some a, m, l, rfl, ⟨by simpa using hl, (fun h => by cases h), fun hn => ?_⟩, hm, hpr⟩
    have hn' : 0 < l.length := by simpa using hn
    have h00 := hcell 0 hn' 0 hk0
    have hsz : 0 < (av l[0]).size := by rw [hav]; exact hk0
    rw [Nat.zero_mul, Addr.add_zero', Addr.add_zero', Array.getElem?_eq_getElem hsz] at h00
    obtain ⟨b, off, spot⟩ := a
    have hspot : spot = none := by
      cases spot with
      | none => rfl
      | some q => simp [World.cell?] at h00; split at h00 <;> simp at h00
    subst hspot
    refine ⟨b, off, rfl, block_lt_of_cell h00, fun i r hr => ?_⟩
    rw [List.getElem?_map] at hr
    cases hli : l[i]? with
    | none => rw [hli] at hr; cases hr
    | some y =>
      rw [hli] at hr
      simp only [Option.map_some, Option.some.injEq] at hr
      subst hr
      obtain ⟨hil, hy⟩ := List.getElem?_eq_some_iff.1 hli
      refine recAt_of (hav y) (fun j v hv => ?_)
      have hj : j < k := by have := (List.getElem?_eq_some_iff.1 hv).1; simp [hav] at this; exact this
      have := hcell i hil j hj
      rw [add_at, add_at] at this
      rw [this, hy]
      simpa using hv
theorem open_recs {V : Type} [Inhabited V] {Pr : V → Prop} {v : Value} {w : World} {r : Reach} {b0 : Nat} {hd : Bool} {d : DataW H} {p : List MemPlace} {tS tE : TypeId} {k : Nat} (av : V → Array Value) (hu : Tryd.prog.underlying tS = some (.slice tE)) (hk : Tryd.prog.cellsOf tE = k) (hk0 : 0 < k) (hav : ∀ a, (av a).size = k)
    (helem : ∀ (fuel : Nat) (cs' : List Value) (x' : DataW H × List MemPlace), DataW.trod enc Tryd.prog w 0 (fun _ => true) hd fuel tE cs' = some x' → ∃ a, cs' = (av a).toList ∧ Pr a)
    (hv : Value.okWide Tryd.prog w r b0 tS v) (h : DataW.Trod enc Tryd.prog w 0 (fun _ => true) hd tS v d p) : ∃ (A : Option Addr) (c : Nat) (l : List V), v = .slice A l.length c ∧ RdRec w A c k (l.map av) ∧ c ≤ maxLen ∧ ∀ a ∈ l, Pr a := by
  obtain ⟨a0, n, c, rfl⟩ := okWide_slice hu hv
  obtain ⟨fuel, hf⟩ := h
  obtain ⟨A, c', l, he, hr⟩ := trod_recs av hu hk hk0 hav helem hf
  exact ⟨A, c', l, by simpa [Value.cells] using he, hr⟩
end
end Go.Proofs.YtppijfjigcoifaaDoor

/-
  What regions, and numbers with their range, look like among the arguments.
-/
set_option linter.unusedSimpArgs false
set_option linter.unusedVariables false
set_option linter.constructorNameAsVariable false
set_option maxRecDepth 100000
namespace Go.Proofs.YtppijfjigcoifaaDoor
open Go.ChangeShapes Go.WideShapes Go.ChangeAt Go.RowKit Go.Deep Go.WideElems

section
variable {H : Type} {enc : TypeId × Value → H}
def In64 (n : Int) : Prop := -9223372036854775808 ≤ n ∧ n ≤ 9223372036854775807
theorem wf_in64 {n : Int} (h : (Lit.int .i64 n).wf = true) : In64 n := by
  unfold In64
  simpa [Lit.wf, IntKind.min, IntKind.max, IntKind.bits, IntKind.signed] using h
/-- A field that is an int, with its range. -/
theorem num_fieldW {P : Program} {w : World} {base : Nat} {sp : Nat → Bool} {hd : Bool} {fuel : Nat} {t : TypeId} {k : IntKind} {c : Value} {y : Option (DataW H × List MemPlace)} (ht : P.underlying t = some (.int k)) (hy : y.isSome = true) (h : DataW.trod enc P w base sp hd fuel t [c] = y) : ∃ n, c = .int k n ∧ (Lit.int k n).wf = true := by
  obtain ⟨z, hz⟩ := Option.isSome_iff_exists.1 hy
  obtain ⟨n, hn, _, hw⟩ := DataW.trod_int ht (h.trans hz)
  exact ⟨n, by simpa using hn, hw⟩
end
end Go.Proofs.YtppijfjigcoifaaDoor

/-
  What the calls of chapter 14, and lists of lines, look like among the arguments.
-/
set_option linter.unusedSimpArgs false
set_option linter.unusedVariables false
set_option linter.constructorNameAsVariable false
set_option maxRecDepth 100000
namespace Go.Proofs.YtppijfjigcoifaaDoor
open Go.ChangeShapes Go.WideShapes Go.ChangeAt Go.RowKit Go.Deep Go.WideElems

theorem list1 {α : Type} {n : Nat} {l : List α} (h : l.length = n + 1) : ∃ a r, l = a :: r ∧ r.length = n := by cases l with | nil => simp at h | cons a r => exact ⟨a, r, rfl, by simpa using h⟩
theorem list34 {α : Type} {l : List α} (h : l.length = 34) : ∃ c0 c1 c2 c3 c4 c5 c6 c7 c8 c9 c10 c11 c12 c13 c14 c15 c16 c17 c18 c19 c20 c21 c22 c23 c24 c25 c26 c27 c28 c29 c30 c31 c32 c33 : α, l = [c0, c1, c2, c3, c4, c5, c6, c7, c8, c9, c10, c11, c12, c13, c14, c15, c16, c17, c18, c19, c20, c21, c22, c23, c24, c25, c26, c27, c28, c29, c30, c31, c32, c33] := by
  obtain ⟨c0, r0, rfl, h0⟩ := list1 h
  obtain ⟨c1, r1, rfl, h1⟩ := list1 h0
  obtain ⟨c2, r2, rfl, h2⟩ := list1 h1
  obtain ⟨c3, r3, rfl, h3⟩ := list1 h2
  obtain ⟨c4, r4, rfl, h4⟩ := list1 h3
  obtain ⟨c5, r5, rfl, h5⟩ := list1 h4
  obtain ⟨c6, r6, rfl, h6⟩ := list1 h5
  obtain ⟨c7, r7, rfl, h7⟩ := list1 h6
  obtain ⟨c8, r8, rfl, h8⟩ := list1 h7
  obtain ⟨c9, r9, rfl, h9⟩ := list1 h8
  obtain ⟨c10, r10, rfl, h10⟩ := list1 h9
  obtain ⟨c11, r11, rfl, h11⟩ := list1 h10
  obtain ⟨c12, r12, rfl, h12⟩ := list1 h11
  obtain ⟨c13, r13, rfl, h13⟩ := list1 h12
  obtain ⟨c14, r14, rfl, h14⟩ := list1 h13
  obtain ⟨c15, r15, rfl, h15⟩ := list1 h14
  obtain ⟨c16, r16, rfl, h16⟩ := list1 h15
  obtain ⟨c17, r17, rfl, h17⟩ := list1 h16
  obtain ⟨c18, r18, rfl, h18⟩ := list1 h17
  obtain ⟨c19, r19, rfl, h19⟩ := list1 h18
  obtain ⟨c20, r20, rfl, h20⟩ := list1 h19
  obtain ⟨c21, r21, rfl, h21⟩ := list1 h20
  obtain ⟨c22, r22, rfl, h22⟩ := list1 h21
  obtain ⟨c23, r23, rfl, h23⟩ := list1 h22
  obtain ⟨c24, r24, rfl, h24⟩ := list1 h23
  obtain ⟨c25, r25, rfl, h25⟩ := list1 h24
  obtain ⟨c26, r26, rfl, h26⟩ := list1 h25
  obtain ⟨c27, r27, rfl, h27⟩ := list1 h26
  obtain ⟨c28, r28, rfl, h28⟩ := list1 h27
  obtain ⟨c29, r29, rfl, h29⟩ := list1 h28
  obtain ⟨c30, r30, rfl, h30⟩ := list1 h29
  obtain ⟨c31, r31, rfl, h31⟩ := list1 h30
  obtain ⟨c32, r32, rfl, h32⟩ := list1 h31
  obtain ⟨c33, r33, rfl, h33⟩ := list1 h32
  obtain rfl := List.length_eq_zero_iff.1 h33
  exact ⟨c0, c1, c2, c3, c4, c5, c6, c7, c8, c9, c10, c11, c12, c13, c14, c15, c16, c17, c18, c19, c20, c21, c22, c23, c24, c25, c26, c27, c28, c29, c30, c31, c32, c33, rfl⟩
instance : Inhabited Act14 := ⟨⟨0, 0, 0, 0, 0, cell0, none, 0, [], false, pen0⟩⟩
/-- What is asked of a call among the arguments. -/
def Ok14 (w : World) (a : Act14) : Prop := In64 a.a ∧ In64 a.b ∧ In64 a.n ∧ RdC w a.A a.c a.cs ∧ a.c ≤ maxLen
section
variable {H : Type} {enc : TypeId × Value → H}
theorem cells_act14 : Tryd.prog.cellsOf 90 = 34 := by kernel_rfl
theorem cells_cell14 : Tryd.prog.cellsOf 71 = 16 := by kernel_rfl
theorem trod_act14 {w : World} {fuel : Nat} {cs : List Value} {x : DataW H × List MemPlace} {hd : Bool} (h : DataW.trod enc Tryd.prog w 0 (fun _ => true) hd fuel 90 cs = some x) : ∃ a : Act14, cs = (av14 a).toList ∧ Ok14 w a := by
  obtain ⟨xs, n, _, _, hlen, hxl, hf⟩ := DataW.trod_struct Tryd.underlying90 h
  rw [cells_act14] at hlen
  have h0 : DataW.trod enc Tryd.prog w 0 (fun _ => true) hd n 3 ((cs.drop 0).take (Tryd.prog.cellsOf 3)) = xs[0]? := hf 0 _ rfl
  have h1 : DataW.trod enc Tryd.prog w 0 (fun _ => true) hd n 3 ((cs.drop 1).take (Tryd.prog.cellsOf 3)) = xs[1]? := hf 1 _ rfl
  have h2 : DataW.trod enc Tryd.prog w 0 (fun _ => true) hd n 3 ((cs.drop 2).take (Tryd.prog.cellsOf 3)) = xs[2]? := hf 2 _ rfl
  have h3 : DataW.trod enc Tryd.prog w 0 (fun _ => true) hd n 3 ((cs.drop 3).take (Tryd.prog.cellsOf 3)) = xs[3]? := hf 3 _ rfl
  have h4 : DataW.trod enc Tryd.prog w 0 (fun _ => true) hd n 3 ((cs.drop 4).take (Tryd.prog.cellsOf 3)) = xs[4]? := hf 4 _ rfl
  have h5 : DataW.trod enc Tryd.prog w 0 (fun _ => true) hd n 71 ((cs.drop 5).take (Tryd.prog.cellsOf 71)) = xs[5]? := hf 5 _ rfl
  have h6 : DataW.trod enc Tryd.prog w 0 (fun _ => true) hd n 39 ((cs.drop 21).take (Tryd.prog.cellsOf 39)) = xs[6]? := hf 6 _ rfl
  have h7 : DataW.trod enc Tryd.prog w 0 (fun _ => true) hd n 54 ((cs.drop 23).take (Tryd.prog.cellsOf 54)) = xs[7]? := hf 7 _ rfl
  obtain ⟨z5, e5⟩ := some_of (show (xs[5]?).isSome = true by simp [hxl])
  obtain ⟨z6, e6⟩ := some_of (show (xs[6]?).isSome = true by simp [hxl])
  obtain ⟨z7, e7⟩ := some_of (show (xs[7]?).isSome = true by simp [hxl])
  simp only [cells_int, cells_cell14, cells_line, cells_pen] at h0 h1 h2 h3 h4 h5 h6 h7
  obtain ⟨x, hx⟩ := trod_cell (h5.trans e5)
  obtain ⟨A, c, l, s, hl, hr, hm⟩ := trod_line (h6.trans e6)
  obtain ⟨q, hq⟩ := trod_pen (h7.trans e7)
  obtain ⟨c0, c1, c2, c3, c4, c5, c6, c7, c8, c9, c10, c11, c12, c13, c14, c15, c16, c17, c18, c19, c20, c21, c22, c23, c24, c25, c26, c27, c28, c29, c30, c31, c32, c33, rfl⟩ := list34 hlen
  simp only [List.drop_zero, List.drop_succ_cons, List.take_succ_cons, List.take_zero] at h0 h1 h2 h3 h4 hx hl hq
  obtain ⟨n0, rfl⟩ := num_field Tryd.underlying3 (by simp [hxl]) h0
  obtain ⟨n1, rfl⟩ := num_field Tryd.underlying3 (by simp [hxl]) h1
  obtain ⟨n2, rfl, g2⟩ := num_fieldW Tryd.underlying3 (by simp [hxl]) h2
  obtain ⟨n3, rfl, g3⟩ := num_fieldW Tryd.underlying3 (by simp [hxl]) h3
  obtain ⟨n4, rfl, g4⟩ := num_fieldW Tryd.underlying3 (by simp [hxl]) h4
  simp only [cv, List.cons.injEq, and_true] at hx
  obtain ⟨rfl, rfl, rfl, rfl, rfl, rfl, rfl, rfl, rfl, rfl, rfl, rfl, rfl, rfl, rfl, rfl⟩ := hx
  simp only [List.cons.injEq, and_true] at hl
  obtain ⟨rfl, rfl⟩ := hl
  simp only [pv, List.cons.injEq, and_true] at hq
  obtain ⟨rfl, rfl, rfl, rfl, rfl, rfl, rfl, rfl, rfl, rfl, rfl⟩ := hq
  exact ⟨⟨n0, n1, n2, n3, n4, x, A, c, l, s, q⟩, rfl, wf_in64 g2, wf_in64 g3, wf_in64 g4, hr, hm⟩
theorem open_act14 {v : Value} {w : World} {r : Reach} {b0 : Nat} {hd : Bool} {d : DataW H} {p : List MemPlace} (hv : Value.okWide Tryd.prog w r b0 90 v) (h : DataW.Trod enc Tryd.prog w 0 (fun _ => true) hd 90 v d p) : ∃ a : Act14, v = .agg (av14 a) ∧ Ok14 w a := by
  obtain ⟨cs, rfl, _⟩ := okWide_struct Tryd.underlying90 hv
  obtain ⟨fuel, hf⟩ := h
  obtain ⟨a, ha, hn⟩ := trod_act14 hf
  exact ⟨a, by rw [show cs = av14 a from by simpa [Value.cells] using ha], hn⟩
end
/-- A line among the arguments: where its cells lie, and whether it is soft. -/
structure ALine where
  A : Option Addr
  c : Nat
  cs : List Cell
  s : Bool
instance : Inhabited ALine := ⟨⟨none, 0, [], false⟩⟩
def alv (a : ALine) : Array Value := #[.slice a.A a.cs.length a.c, .bool a.s]
theorem alv_size (a : ALine) : (alv a).size = 2 := rfl
theorem rdl_of {w : World} {A : Option Addr} {c : Nat} {l : List ALine} (h : RdRec w A c 2 (l.map alv)) (hp : ∀ a ∈ l, RdC w a.A a.c a.cs ∧ a.c ≤ maxLen) : RdL w A c (l.map fun a => (a.cs, a.s)) := by
  refine ⟨by simpa using h.1, h.2.1, fun hn => ?_⟩
  obtain ⟨b, off, rfl, hz, hr⟩ := h.2.2 (by simpa using hn)
  refine ⟨b, off, rfl, hz, fun i x hx => ?_⟩
  rw [List.getElem?_map] at hx
  cases hi : l[i]? with
  | none => rw [hi] at hx; cases hx
  | some a =>
    rw [hi] at hx
    simp only [Option.map_some, Option.some.injEq] at hx
    subst hx
    have hg := range_of_recAt (hr i (alv a) (by simp [hi]))
    refine ⟨a.A, a.c, ?_, ?_, (hp a (List.mem_of_getElem? hi)).1⟩
    · have := hg.2 0 _ rfl; simpa using this
    · have := hg.2 1 _ rfl; simpa using this
section
variable {H : Type} {enc : TypeId × Value → H}
theorem open_lines {v : Value} {w : World} {r : Reach} {b0 : Nat} {hd : Bool} {d : DataW H} {p : List MemPlace} (hv : Value.okWide Tryd.prog w r b0 30 v) (h : DataW.Trod enc Tryd.prog w 0 (fun _ => true) hd 30 v d p) : ∃ (A : Option Addr) (c : Nat) (L : List Ln), v = .slice A L.length c ∧ RdL w A c L ∧ c ≤ maxLen ∧ ∀ l ∈ L, l.1.length ≤ maxLen := by
  obtain ⟨A, c, l, rfl, h2, h3, h4⟩ := open_recs (Pr := fun a : ALine => RdC w a.A a.c a.cs ∧ a.c ≤ maxLen) alv Tryd.underlying30 cells_line (by decide) alv_size (fun fuel cs' x' h => by obtain ⟨A, c, l, s, he, hr, hm⟩ := trod_line h; exact ⟨⟨A, c, l, s⟩, he, hr, hm⟩) hv h
  refine ⟨A, c, l.map fun a => (a.cs, a.s), by simp, rdl_of h2 h4, h3, fun x hx => ?_⟩
  obtain ⟨a, ha, rfl⟩ := List.mem_map.1 hx
  exact Nat.le_trans (h4 a ha).1.1 (h4 a ha).2
end
end Go.Proofs.YtppijfjigcoifaaDoor

/-
  What the rows' list gives: the program's two tables lie in their blocks. And the pieces that every card of this seat asks.
-/
set_option linter.unusedSimpArgs false
set_option linter.unusedVariables false
set_option linter.constructorNameAsVariable false
set_option maxRecDepth 100000
namespace Go.Proofs.YtppijfjigcoifaaDoor
open Go.ChangeShapes Go.WideShapes Go.ChangeAt Go.RowKit Go.Deep Go.WideElems

theorem own_knob : ownKnob Tryd.prog.godebug = none := by kernel_rfl
theorem laid_out : laidOutB Tryd.prog = true := by kernel_rfl
def pairData {H : Type} (x : Int × Int) : DataW H := .agg [.lit (.int .i32 x.1), .lit (.int .i32 x.2)]
theorem cells_pair : Tryd.prog.cellsOf 126 = 2 := by kernel_rfl
section
variable {H : Type} {enc : TypeId × Value → H} {w : World} {base : Nat} {sp : Nat → Bool} {hd : Bool} {fuel : Nat} {cs : List Value}
theorem num_lit {t : TypeId} {c : Value} {n : Int} {p : List MemPlace} (ht : Tryd.prog.underlying t = some (.int .i32)) (h : DataW.trod enc Tryd.prog w base sp hd fuel t [c] = some (.lit (.int .i32 n), p)) : c = .int .i32 n := by
  obtain ⟨m, hm, hx, _⟩ := DataW.trod_int ht h
  simp only [Prod.mk.injEq, DataW.lit.injEq, Lit.int.injEq, true_and] at hx
  simp only [List.cons.injEq, and_true] at hm
  rw [hm, hx.1]
theorem trod_pair {x : Int × Int} {p : List MemPlace} (h : DataW.trod enc Tryd.prog w base sp hd fuel 126 cs = some (pairData x, p)) : cs = [.int .i32 x.1, .int .i32 x.2] := by
  obtain ⟨xs, n, _, hx, hlen, hxl, hf⟩ := DataW.trod_array Tryd.underlying126 h
  rw [cells_pair] at hlen
  match cs, hlen, xs, hxl, hf, hx with
  | [c0, c1], _, [y0, y1], _, hf, hx =>
    have h0 := hf 0 (by omega)
    have h1 := hf 1 (by omega)
    simp only [cells_i32, Nat.zero_mul, Nat.one_mul, List.drop_zero, List.drop_succ_cons, List.take_succ_cons, List.take_zero, List.getElem?_cons_zero, List.getElem?_cons_succ] at h0 h1
    simp only [pairData, List.map_cons, List.map_nil, Prod.mk.injEq, DataW.agg.injEq, List.cons.injEq, and_true] at hx
    obtain ⟨y0a, y0b⟩ := y0
    obtain ⟨y1a, y1b⟩ := y1
    obtain ⟨⟨e0, e1⟩, _⟩ := hx
    simp only at e0 e1
    subst e0 e1
    rw [num_lit Tryd.underlying21 h0, num_lit Tryd.underlying21 h1]
theorem trod_table {t : TypeId} {tab : List (Int × Int)} {p : List MemPlace} (ht : Tryd.prog.underlying t = some (.array tab.length 126)) (h : DataW.trod enc Tryd.prog w base sp hd fuel t cs = some (.agg (tab.map pairData), p)) :
    ∀ k, k < tab.length → cs[k * 2]? = some (.int .i32 (loOf tab k)) ∧ cs[k * 2 + 1]? = some (.int .i32 (hiOf tab k)) := by
  obtain ⟨xs, n, _, hx, hlen, hxl, hf⟩ := DataW.trod_array ht h
  intro k hk
  have hkf := hf k hk
  rw [cells_pair] at hkf
  have hk2 : k < xs.length := by omega
  rw [List.getElem?_eq_getElem hk2] at hkf
  simp only [Prod.mk.injEq, DataW.agg.injEq] at hx
  have he : xs[k].1 = pairData tab[k] := by
    have := congrArg (fun l => l[k]?) hx.1
    simp only [List.getElem?_map, List.getElem?_eq_getElem hk, List.getElem?_eq_getElem hk2, Option.map_some, Option.some.injEq] at this
    exact this.symm
  have hp := trod_pair (x := tab[k]) (p := xs[k].2) (by rw [hkf, ← he])
  have g0 := congrArg (fun l => l[0]?) hp
  have g1 := congrArg (fun l => l[1]?) hp
  simp only [List.getElem?_take, List.getElem?_drop, List.getElem?_cons_zero, List.getElem?_cons_succ, Nat.add_zero] at g0 g1
  simp only [loOf, hiOf, List.getD_eq_getElem?_getD, List.getElem?_eq_getElem hk, Option.getD_some]
  exact ⟨by simpa using g0, by simpa using g1⟩
end
theorem pairs_of {W : World} {name : String} {g : Nat} {t : TypeId} {tab : List (Int × Int)} {cs : Array Value} {fuel : Nat} {p : List MemPlace} {base : Nat} {sp : Nat → Bool} {hd : Bool} {H : Type} {enc : TypeId × Value → H} (hg : Tryd.prog.globalNamed name = some g) (ht : Tryd.prog.underlying t = some (.array tab.length 126))
    (hv : W.var? Tryd.prog name = some cs) (h : DataW.trod enc Tryd.prog W base sp hd fuel t cs.toList = some (.agg (tab.map pairData), p)) (hn : 0 < tab.length) : Pairs W g tab.length (loOf tab) (hiOf tab) := by
  have hc := World.var?_cell hg hv
  have htb := trod_table ht h
  refine ⟨?_, fun k hk => ?_⟩
  · have := (htb 0 hn).1
    have h0 := hc 0
    simp only [Nat.zero_mul, Array.getElem?_toList] at this
    rw [this] at h0
    exact block_lt_of_cell h0
  · obtain ⟨h1, h2⟩ := htb k hk
    rw [hc, hc]
    exact ⟨by simpa using h1, by simpa using h2⟩
theorem tabs_of {W : World} (h : laidMetH Tryd.prog Rows.gridSizesRow.laid W) : Tabs W := by
  have h' : laidMet Tryd.prog Rows.gridSizesRow.laid W := h
  obtain ⟨ps, ⟨g, t, cs, fuel, p, q, hg, ht, hv, hd, ⟨g2, t2, cs2, fuel2, p2, q2, hg2, ht2, hv2, hd2, _⟩, _⟩, _⟩ := h'
  have e1 : Tryd.prog.globalNamed "scrollback/width.marks" = some 0 := by kernel_rfl
  have e2 : Tryd.prog.globalNamed "scrollback/width.wide" = some 1 := by kernel_rfl
  obtain rfl := Option.some.inj (e1.symm.trans hg)
  obtain rfl := Option.some.inj (e2.symm.trans hg2)
  have f1 : (Tryd.prog.globals[0]?).map (·.type) = some 127 := by kernel_rfl
  have f2 : (Tryd.prog.globals[1]?).map (·.type) = some 128 := by kernel_rfl
  obtain rfl := Option.some.inj (f1.symm.trans ht)
  obtain rfl := Option.some.inj (f2.symm.trans ht2)
  exact ⟨pairs_of (tab := marksTab) e1 Tryd.underlying127 hv hd (by decide), pairs_of (tab := wideTab) e2 Tryd.underlying128 hv2 hd2 (by decide)⟩
/-- A world for the witnesses: the tables hold what their initialisers lay. -/
def setTab (n : Nat) (tab : List (Int × Int)) (h : Array Obj) : Array Obj := h.modify n fun
  | .cells _ t frozen => .cells (tab.flatMap fun x => [Value.int .i32 x.1, Value.int .i32 x.2]).toArray t frozen
  | o => o
noncomputable def laidWorld (os : Os) : World :=
  { World.holding Tryd.prog os ⟨#[], #[], []⟩ with heap := setTab 1 wideTab (setTab 0 marksTab (World.holding Tryd.prog os ⟨#[], #[], []⟩).heap) }
end Go.Proofs.YtppijfjigcoifaaDoor
