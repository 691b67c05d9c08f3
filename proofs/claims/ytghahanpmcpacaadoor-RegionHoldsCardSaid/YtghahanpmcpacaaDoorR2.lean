/-
  Part 2 of the texts on which the proofs of this seat stand: each part says ahead of it what it shows.
-/
import Derived.Test.YtghahanpmcpacaaDoorR1
import Derived.Lib.MinMax

/-
  line.Of, Equal, Copy; slices.Equal; the reference's New, Same.
-/
set_option linter.unusedSimpArgs false
set_option linter.unusedVariables false
namespace Go.Proofs.YtghahanpmcpacaaDoor
open Go.RowKit

set_option maxHeartbeats 1000000 in
theorem slEqual_any (A B : Option Addr) (ca cb : Nat) (xs ys : List Cell) (w : World) (ha : RdC w A ca xs) (hb : RdC w B cb ys) (hn : xs.length ≤ 1000000) (hm : ys.length ≤ 1000000) :
    Calls Tryd.prog 86 #[.slice A xs.length ca, .slice B ys.length cb] w fun e w' => e = .returned (.bool (decide (xs = ys))) ∧ Below w.heap.size w w' := by
  have HA := Lib.hid ha
  have HB := Lib.hid hb
  clear ha hb
  by_cases hl : xs.length = ys.length
  case neg =>
    have HE := Lib.hid (show decide (xs = ys) = false by simp; intro h; exact hl (by rw [h]))
    have hl' : ((xs.length : Int) != (ys.length : Int)) = true := by rw [bne_iff_ne]; omega
    clear hl
    go_enter Tryd.func86, Tryd.ntmps86
    go_wp2_with fail
    go_ret
    exact ⟨by rw [HE.out]; rfl, Below.refl _ _⟩
  have hl' : ((xs.length : Int) != (ys.length : Int)) = false := by simp; omega
  have HL := Lib.hid hl
  clear hl
  go_enter Tryd.func86, Tryd.ntmps86
  go_wp2_with fail
  go_loopw [13] (fun i wr => ∃ k : Nat, k ≤ xs.length ∧ i = .int .i64 k ∧ (∀ j, j < k → xs[j]? = ys[j]?) ∧ Below w.heap.size w wr) (fun i _ => xs.length - (intOf i).toNat)
  case atStart => exact ⟨0, by omega, rfl, fun j hj => by omega, Below.refl _ _⟩
  case round =>
    obtain ⟨k, hk, rfl, hj, hb⟩ := hrel
    have HJ := Lib.hid hj
    have HW := Lib.hid hb
    clear hj hb
    by_cases hlt : k < xs.length
    · have hlt2 : k < ys.length := by have := HL.out; omega
      obtain ⟨b1, o1, rfl, hz1, hr1⟩ := (HA.out.bel HW.out).at_ hlt
      obtain ⟨b2, o2, rfl, hz2, hr2⟩ := (HB.out.bel HW.out).at_ hlt2
      have hc1 := elem_cell hr1 hlt
      have hc2 := elem_cell hr2 hlt2
      clear hr1 hr2
      by_cases he : xs[k] = ys[k]
      · have he' : decide (xs[k] = ys[k]) = true := by simpa using he
        have HE := Lib.hid he
        clear he
        go_wp2_with fail
        refine wp_region_below (by kernel_rfl) (by kernel_rfl) ?_
        repeat (go_big_quiet_step (fail))
        refine wpQuiet_nil ?_
        intro w2 hb2
        go_wp2_with fail
        go_roundw
        case rel => exact ⟨k + 1, by omega, by go_num, upto_succ HJ.out (by rw [List.getElem?_eq_getElem hlt, List.getElem?_eq_getElem hlt2, HE.out]), HW.out.trans (hb2.mono HW.out.size)⟩
        case measure => simp [intOf]; omega
      · have he' : decide (xs[k] = ys[k]) = false := by simpa using he
        have HE := Lib.hid (show decide (xs = ys) = false by simp; rintro rfl; exact he rfl)
        clear he
        go_wp2_with fail
        refine wp_region_below (by kernel_rfl) (by kernel_rfl) ?_
        repeat (go_big_quiet_step (fail))
        refine wpQuiet_nil ?_
        intro w2 hb2
        go_wp2_with fail
        go_ret
        exact ⟨by rw [HE.out]; rfl, HW.out.trans (hb2.mono HW.out.size)⟩
    · have HE := Lib.hid (show decide (xs = ys) = true by simp; exact upto_eq HL.out (fun j hj => HJ.out j (by omega)))
      go_wp2_with fail
      go_ret
      exact ⟨by rw [HE.out]; rfl, HW.out⟩

/-- Whether two lines are equal. -/
def eqL (xs : List Cell) (s : Bool) (ys : List Cell) (t : Bool) : Bool := decide ((xs, s) = (ys, t))
theorem lineEq_dec (xs ys : List Cell) (s t : Bool) : eqL xs s ys t = (decide (s = t) && decide (xs = ys)) := by unfold eqL; rw [Bool.eq_iff_iff]; simp [and_comm]
set_option maxHeartbeats 400000 in
theorem lineEqual_any (A B : Option Addr) (ca cb : Nat) (xs ys : List Cell) (s t : Bool) (w : World) (ha : RdC w A ca xs) (hb : RdC w B cb ys) (hn : xs.length ≤ 1000000) (hm : ys.length ≤ 1000000) :
    Calls Tryd.prog 64 #[.agg #[.slice A xs.length ca, .bool s], .agg #[.slice B ys.length cb, .bool t]] w fun e w' => e = .returned (.bool (eqL xs s ys t)) ∧ Below w.heap.size w w' := by
  have HA := Lib.hid ha
  have HB := Lib.hid hb
  clear ha hb
  have HD := Lib.hid (lineEq_dec xs ys s t)
  by_cases h : s = t
  · subst h
    go_enter Tryd.func64, Tryd.ntmps64
    go_wp2_with fail
    refine (slEqual_any _ _ _ _ _ _ _ ((HA.out.alloc _).alloc _) ((HB.out.alloc _).alloc _) hn hm).mono ?_
    rintro e w1 ⟨rfl, hb⟩
    go_wp2_with fail
    go_ret
    exact ⟨by rw [HD.out]; simp, bel1 (bel1 hb)⟩
  · have h' : (s == t) = false := by simpa using h
    go_enter Tryd.func64, Tryd.ntmps64
    go_wp2_with fail
    go_ret
    exact ⟨by rw [HD.out]; simp [h], (belA _ _).trans ((belA _ _).mono (by simp))⟩
theorem results_c1 {fn : Func} {p : Tmp} {ty tt : TypeId} {P : Program} (h : fn.results = #[.cell p ty]) (tmps : Array Value) (w : World) (g : Nat) (cs : Array Value) (d : TypeDesc)
    (hp : tmps.getD p undef = .pointer (some ⟨g, 0, none⟩)) (hg : Blk w g tt cs)
    (hu : P.underlying ty = some d) (hd : d.isRow = true) (hi : (P.info? ty).map (·.size) = some cs.size) :
    (results fn tmps).run P w = .ok (.agg cs) w := by
  have hp' : tmps[p]?.getD undef = .pointer (some ⟨g, 0, none⟩) := by simpa using hp
  simp [results, h, hp', asAddr, run_loadVar_mid w g 0 ty cs.toList d hg.range hu hd (by simpa using hi)]
set_option maxHeartbeats 400000 in
theorem lineCopy_any (A : Option Addr) (c : Nat) (cs : List Cell) (s : Bool) (w : World) (ha : RdC w A c cs) (hn : cs.length ≤ 1000000) :
    Calls Tryd.prog 59 #[.agg #[.slice A cs.length c, .bool s]] w (Line1End cs s w) := by
  have HA := Lib.hid ha
  clear ha
  go_enter Tryd.func59, Tryd.ntmps59
  go_wp2_with fail
  refine (clone_any _ _ _ _ ((HA.out.alloc _).alloc _) hn).mono ?_
  rintro e w1 ⟨v, rfl, ho, hb⟩
  obtain ⟨hk0, hk1, hb1⟩ := box2 hb
  obtain ⟨A1, c1, rfl, -⟩ := ho.form
  have HO := Lib.hid ho
  have HB := Lib.hid hb1
  have K0 := Lib.hid hk0
  have K1 := Lib.hid hk1
  obtain ⟨hx0, hf0, hz0⟩ := hk0.facts
  obtain ⟨hx1, hf1, hz1⟩ := hk1.facts
  clear ho hb hb1 hk0 hk1
  go_wp2_with fail
  have C1 := chg_setCell w1 ⟨w.heap.size, 0, none⟩ (.slice A1 cs.length c1)
  have HF := fin_line (w := w) (g := w.heap.size + 1) (v := .slice A1 cs.length c1) (l := cs) s (HB.out.trans (C1.below HB.out.size (fun k hk he => by have := (show k = w.heap.size from he); omega))) (K1.out.far (p := ⟨w.heap.size, 0, none⟩) (by simp) _) (by omega) (own_chg HO.out C1 (fun b hb he => by have := own_from HO.out b hb; have := (show b = w.heap.size from he); simp at *; omega)) (by simp)
  refine bodyPost_ret (results_c1 Tryd.results59 _ _ (w.heap.size + 1) _ _ rfl HF.1 Tryd.underlying79 rfl line_size) rfl ?_
  exact ⟨_, rfl, HF.2⟩

end Go.Proofs.YtghahanpmcpacaaDoor

/-
  Steps of regions on cells and lines: calls, appends, stores of a line.
-/
set_option linter.unusedSimpArgs false
set_option linter.unusedVariables false
namespace Go.Proofs.YtghahanpmcpacaaDoor
open Go.RowKit

theorem Blk.chg {S : Nat → Prop} {w w' : World} {g : Nat} {t : TypeId} {cs : Array Value} (h : Blk w g t cs) (hc : Chg S w w') (hn : ¬ S g) : Blk w' g t cs := (hc.block g h.lt hn).trans h
/-- An owned slice's value, and a line of one. -/
def Sq.line {S : Nat → Prop} (B : Nat) (cs : List Cell) (s : Bool) : Sq S :=
  ⟨fun u w => ∃ v, u = .agg #[v, .bool s] ∧ OwnC w B v cs ∧ ∀ b, v.ownBlock = some b → ¬ S b, fun _ _ _ ⟨v, h1, h2, h3⟩ hb => ⟨v, h1, own_chg h2 hb h3, h3⟩⟩
section
variable {ops : Array Oper} {Q : Exit → Act → World → Prop} {o : Oper} {a : Act} {w : World} {Φ : Value → World → Prop} {R : World → World → Prop}
theorem rstep_store {P : Program} {w2 : World} (hw : Region.wanted o (yielded ops a.tmps) = true) (hd : o.dst = none) (hr : (execOp a.eval o).run P w = .ok .skip w2) (hv : Φ undef w2) (hb : R w w2) : RStep P ops Q Φ R o a w := by
  unfold RStep
  rw [if_pos hw]
  unfold Oper.wp
  rw [hr]
  exact ⟨undef, (by rw [hd]), hv, hb⟩
theorem ro_call {f : FuncId} {xs : Array Operand} {args : Array Value} {ts : Array TypeId} (hw : Region.wanted o (yielded ops a.tmps) = true) (ho : o.op = .call { callee := .value (.func f), args := xs, argTypes := ts }) (hx : xs.map a.eval = args)
    (hf : ∀ (vs : Array Value) (w : World), (callFunc f vs).run Tryd.prog w = .ok (.enter f vs) w) (hc : Calls Tryd.prog f args w fun e w2 => ∃ v, e = .returned v ∧ Φ v w2 ∧ R w w2) : RStep Tryd.prog ops Q Φ R o a w := by
  refine rstep_call (f := f) (args := args) hw ?_ hc
  unfold execOp
  subst hx
  simp only [ho, resolve, invoke, Sem.run_bind, Sem.run_pure, Result.andThen_ok, Act.eval]
  simp [go_sem, hf]
end
end Go.Proofs.YtghahanpmcpacaaDoor

/-
  line.Trim and the reference's Copy, Trim.
-/
set_option linter.unusedSimpArgs false
set_option linter.unusedVariables false
namespace Go.Proofs.YtghahanpmcpacaaDoor
open Go.RowKit

/-- The other spelling of a temporary's value. -/
theorem gd {xs : Array Value} {i : Nat} {v : Value} (h : xs.getD i undef = v) : xs[i]?.getD undef = v := by rw [← Array.getD_eq_getD_getElem?]; exact h
theorem RdC.old {w : World} {A : Option Addr} {c : Nat} {cs : List Cell} (h : RdC w A c cs) (hn : 0 < cs.length) : ∀ ad, A = some ad → ad.block < w.heap.size := fun ad e => by
  obtain ⟨b, off, e', hlt, _⟩ := h.2.2 hn
  rw [e] at e'
  cases e'
  exact hlt
end Go.Proofs.YtghahanpmcpacaaDoor

/-
  line.Fit and the reference's.
-/
set_option linter.unusedSimpArgs false
set_option linter.unusedVariables false
namespace Go.Proofs.YtghahanpmcpacaaDoor
open Go.RowKit

def Sr.line (B : Nat) (cs : List Cell) (s : Bool) : Sr := ⟨fun u w => ∃ v, u = .agg #[v, .bool s] ∧ OwnC w B v cs, fun _ _ _ ⟨v, h1, h2⟩ hb => ⟨v, h1, h2.bel hb⟩⟩
def Sr.box (B g : Nat) (cs : List Cell) (s : Bool) : Sr := ⟨fun _ w => ∃ v, Blk w g 79 #[v, .bool s] ∧ OwnC w B v cs, fun _ _ _ ⟨v, h1, h2⟩ hb => ⟨v, h1.bel hb, h2.bel hb⟩⟩
end Go.Proofs.YtghahanpmcpacaaDoor

/-
  Slices of lines, grids: read, opened and closed again.
-/
set_option linter.unusedSimpArgs false
set_option linter.unusedVariables false
namespace Go.Proofs.YtghahanpmcpacaaDoor
open Go.RowKit

/-- The slice at A reads as these lines. -/
def RdL (w : World) (A : Option Addr) (c : Nat) (L : List Ln) : Prop := L.length ≤ c ∧ (A = none → c = 0) ∧ (0 < L.length → ∃ b off, A = some ⟨b, off, none⟩ ∧ b < w.heap.size ∧
  ∀ (i : Nat) (l : Ln), L[i]? = some l → ∃ A' c', w.cell? ⟨b, off + i * 2, none⟩ = some (.slice A' l.1.length c') ∧ w.cell? ⟨b, off + i * 2 + 1, none⟩ = some (.bool l.2) ∧ RdC w A' c' l.1)
section
variable {w w' : World} {A : Option Addr} {c : Nat} {L : List Ln}
theorem RdL.bel (h : RdL w A c L) (hb : Below w.heap.size w w') : RdL w' A c L := ⟨h.1, h.2.1, fun hn => by
  obtain ⟨b, off, rfl, hz, hr⟩ := h.2.2 hn
  refine ⟨b, off, rfl, by have := hb.size; omega, fun i l hl => ?_⟩
  obtain ⟨A', c', h1, h2, h3⟩ := hr i l hl
  exact ⟨A', c', (hb.cell (p := ⟨b, off + i * 2, none⟩) hz).trans h1, (hb.cell (p := ⟨b, off + i * 2 + 1, none⟩) hz).trans h2, h3.bel hb⟩⟩
theorem RdL.at_ (h : RdL w A c L) {i : Nat} {l : Ln} (hl : L[i]? = some l) : ∃ b off A' c', A = some ⟨b, off, none⟩ ∧ b < w.heap.size ∧ w.cell? ⟨b, off + i * 2, none⟩ = some (.slice A' l.1.length c') ∧ w.cell? ⟨b, off + i * 2 + 1, none⟩ = some (.bool l.2) ∧ RdC w A' c' l.1 := by
  have hi : i < L.length := (List.getElem?_eq_some_iff.1 hl).1
  obtain ⟨b, off, rfl, hz, hr⟩ := h.2.2 (by omega)
  obtain ⟨A', c', h1, h2, h3⟩ := hr i l hl
  exact ⟨b, off, A', c', rfl, hz, h1, h2, h3⟩
theorem RdL.nil (w : World) : RdL w none 0 [] := ⟨by simp, fun _ => rfl, fun h => by simp at h⟩
end
section
variable {w0 w w' : World} {os : List Ob} {v : Value} {bs : List Value} {L : List Ln} {m : Option Nat}
theorem own_form {B k n : Nat} {t : TypeId} {xs : List Value} (h : w.ownsRow B t k v n xs) : ∃ A c, v = .slice A n c ∧ n ≤ c ∧ c ≤ maxLen ∧ (A = none → c = 0) ∧ (0 < n → ∃ g, A = some ⟨g, 0, none⟩ ∧ g < w.heap.size ∧ (∀ j, j < n * k → w.cell? ⟨g, j, none⟩ = xs[j]?) ∧ ∀ j, w.frozen? ⟨g, j, none⟩ = false) := by
  rcases h.2 with ⟨rfl, h0⟩ | ⟨g, cap, cur, rfl, hb, hg, hnc, hm, hsz, htk⟩
  · subst h0
    exact ⟨none, 0, rfl, Nat.le_refl _, by simp [maxLen], fun _ => rfl, fun h => by omega⟩
  · refine ⟨_, cap, rfl, hnc, hm, (fun h => by cases h), fun hn => ⟨g, rfl, (show Blk w g t cur from hg).lt, fun j hj => ?_, fun j => (show Blk w g t cur from hg).frozen j⟩⟩
    rw [(show Blk w g t cur from hg).cell, ← htk, List.getElem?_take, if_pos hj]
    simp
theorem LinesAt.form (h : LinesAt w v bs L m) : ∃ A c, v = .slice A L.length c ∧ L.length ≤ c ∧ c ≤ maxLen ∧ (A = none → c = 0) ∧ (0 < L.length → ∃ g, A = some ⟨g, 0, none⟩ ∧ g < w.heap.size ∧ (∀ i b, bs[i]? = some b → w.cell? ⟨g, i * 2, none⟩ = some b) ∧ (∀ i l, L[i]? = some l → w.cell? ⟨g, i * 2 + 1, none⟩ = some (.bool l.2)) ∧ ∀ j, w.frozen? ⟨g, j, none⟩ = false) := by
  obtain ⟨A, c, rfl, h1, h2, h3, h4⟩ := own_form h.own
  refine ⟨A, c, rfl, h1, h2, h3, fun hn => ?_⟩
  obtain ⟨g, rfl, h5, h6, h7⟩ := h4 hn
  refine ⟨g, rfl, h5, fun i b hb => ?_, fun i l hl => ?_, h7⟩
  · have hi : i < L.length := by rw [← h.len]; exact (List.getElem?_eq_some_iff.1 hb).1
    rw [h6 _ (by omega), hdrs_at0 h.len, hb]
  · have hi : i < L.length := (List.getElem?_eq_some_iff.1 hl).1
    rw [h6 _ (by omega), hdrs_at1 h.len, hl]
    rfl
theorem LinesAt.rd (h : LinesAt w v bs L none) : ∃ A c, v = .slice A L.length c ∧ c ≤ maxLen ∧ RdL w A c L := by
  obtain ⟨A, c, rfl, h1, h2, h3, h4⟩ := h.form
  refine ⟨A, c, rfl, h2, h1, h3, fun hn => ?_⟩
  obtain ⟨g, rfl, h5, h6, h7, h8⟩ := h4 hn
  refine ⟨g, 0, rfl, h5, fun i l hl => ?_⟩
  have hi : i < L.length := (List.getElem?_eq_some_iff.1 hl).1
  have hb : bs[i]? = some (bs[i]'(by rw [h.len]; exact hi)) := by simp [h.len, hi]
  have ho := h.rows i _ l (by simp) hb hl
  obtain ⟨A', c', e, hr⟩ := ho.form
  refine ⟨A', c', ?_, ?_, hr⟩
  · rw [Nat.zero_add, h6 i _ hb, e]
  · rw [Nat.zero_add]; exact h7 i l hl
theorem Objs.linesRd (h : Objs w0 w os) {k : Nat} (hk : os[k]? = some (.lines v L)) : ∃ A c, v = .slice A L.length c ∧ c ≤ maxLen ∧ RdL w A c L := by
  obtain ⟨F, bs, hF, _⟩ := h.get hk
  exact hF.rd
/-- What a grid's block holds; its lines. -/
theorem Objs.gridRd (h : Objs w0 w os) {k p : Nat} {t : TypeId} {cols : Int} (hk : os[k]? = some (.grid p t cols L)) : ∃ A c, Blk w p t #[.int .i64 cols, .slice A L.length c] ∧ c ≤ maxLen ∧ RdL w A c L := by
  obtain ⟨F, v, bs, hB, hF, _⟩ := h.get hk
  obtain ⟨A, c, rfl, hm, hr⟩ := hF.rd
  exact ⟨A, c, hB, hm, hr⟩

/-- A grid is its block and its lines. -/
theorem Objs.openGrid (h : Objs w0 w os) {k p : Nat} {t : TypeId} {cols : Int} (hk : os[k]? = some (.grid p t cols L)) : ∃ v, Objs w0 w (.lines v L :: os.set k (.box p t #[.int .i64 cols, v])) := by
  obtain ⟨F, v, bs, hB, hF, hn, hFb⟩ := h.get hk
  refine ⟨v, h.split (w' := w) hk (fun F hF => ?_)⟩
  obtain ⟨v2, bs2, hB2, hF2, hn2, hFb2⟩ := hF
  obtain rfl : v = v2 := by have := hB.symm.trans hB2; simp at this; exact this
  exact ⟨fun b => b = p, LF v bs2 none, Chg.refl _ _, ⟨hB2, fun _ => Iff.rfl⟩, ⟨bs2, hF2, fun _ => Iff.rfl⟩, fun b hb hl => hn2 (by subst hb; exact hl), fun b hb => .inl ((hFb2 b).2 (.inl hb)), fun b hb => .inl ((hFb2 b).2 (.inr hb))⟩
theorem Objs.closeGrid {k p : Nat} {t : TypeId} {cols : Int} (h : Objs w0 w (.lines v L :: os)) (hk : os[k]? = some (.box p t #[.int .i64 cols, v])) : Objs w0 w (os.set k (.grid p t cols L)) := by
  have := h.join (w' := w) (k := k + 1) (j := 0) (o := .box p t #[.int .i64 cols, v]) (oj := .lines v L) (o' := .grid p t cols L) (oj' := .none) (by simpa using hk) rfl (by omega) (fun F G hF hG hd => by
    obtain ⟨bs, h1, h2⟩ := hG
    refine ⟨fun b => F b ∨ G b, fun _ => False, Chg.refl _ _, ⟨v, bs, hF.1, h1, fun hl => hd p ((hF.2 p).2 rfl) ((h2 p).2 hl), fun b => ?_⟩, fun _ hf => hf, fun _ _ hf => hf, fun b hb => hb.elim .inl (fun x => .inr (.inl x)), fun _ hf => hf.elim⟩
    simp only [hF.2, h2])
  simpa using this.tail
/-- The slices of a slice of lines are given by what lies there. -/
theorem LinesAt.same {bs2 : List Value} {m2 : Option Nat} (h : LinesAt w v bs L m) (g : LinesAt w v bs2 L m2) : bs2 = bs := by
  apply List.ext_getElem?
  intro n
  rcases Nat.lt_or_ge n L.length with hn | hn
  · obtain ⟨A, c, rfl, q1, q2, q3, q4⟩ := own_form h.own
    obtain ⟨gg, rfl, q5, q6, q7⟩ := q4 (by omega)
    obtain ⟨A', c', e', p1, p2, p3, p4⟩ := own_form g.own
    obtain ⟨g', e'', p5, p6, p7⟩ := p4 (by omega)
    subst e''
    simp only [Value.slice.injEq, Option.some.injEq, Addr.mk.injEq, and_true, true_and] at e'
    obtain ⟨rfl, -⟩ := e'
    rw [← hdrs_at0 h.len, ← hdrs_at0 g.len, ← q6 _ (by omega), ← p6 _ (by omega)]
  · rw [List.getElem?_eq_none (by rw [g.len]; exact hn), List.getElem?_eq_none (by rw [h.len]; exact hn)]
/-- The cells of a line are taken out, and put back. -/
theorem Objs.openRow (h : Objs w0 w os) {k i : Nat} {l : Ln} (hk : os[k]? = some (.lines v L)) (hl : L[i]? = some l) : ∃ b, Objs w0 w (.cells b l.1 :: os.set k (.linesx v L i b)) := by
  obtain ⟨F, bs, h1, h2⟩ := h.get hk
  have hi : i < L.length := (List.getElem?_eq_some_iff.1 hl).1
  have hb : bs[i]? = some (bs[i]'(by rw [h1.len]; exact hi)) := by simp [h1.len, hi]
  refine ⟨bs[i]'(by rw [h1.len]; exact hi), h.split (w' := w) hk (fun F' hF' => ?_)⟩
  obtain ⟨bs3, g3, g4⟩ := hF'
  obtain rfl := h1.same g3
  refine ⟨LF v bs3 (some i), fun b => (bs3[i]'(by rw [g3.len]; exact hi)).ownBlock = some b, Chg.refl _ _, ⟨bs3, ⟨g3.len, g3.own, fun j b l hm hb hl => g3.rows j b l (by simp) hb hl, g3.dist⟩, hb, fun _ => Iff.rfl⟩, ⟨g3.rows i _ l (by simp) hb hl, fun _ => Iff.rfl⟩, fun b hb1 hb2 => ?_, fun b hb1 => .inl ((g4 b).2 ?_), fun b hb1 => .inl ((g4 b).2 (.inr ⟨i, _, by simp, hb, hb1⟩))⟩
  · rcases hb1 with e | ⟨j, x, hm, hx, e⟩
    · exact own_apart (by decide) g3.own (g3.rows i _ l (by simp) hb hl) e hb2
    · exact hm (by rw [g3.dist i j _ _ _ hb hx hb2 e])
  · rcases hb1 with e | ⟨j, x, hm, hx, e⟩
    · exact .inl e
    · exact .inr ⟨j, x, by simp, hx, e⟩
theorem hdrs_set {bs : List Value} {L : List Ln} (h : bs.length = L.length) (i : Nat) (l : Ln) (hl : (L[i]?).map (·.2) = some l.2) : hdrs bs (L.set i l) = hdrs bs L := by
  induction bs generalizing L i with
  | nil => cases L with | nil => rfl | cons a L => simp at h
  | cons b bs ih => cases L with
    | nil => simp at h
    | cons a L => cases i with
      | zero => simp at hl; rw [List.set_cons_zero, hdrs_cons, hdrs_cons, hl]
      | succ i => rw [List.set_cons_succ, hdrs_cons, hdrs_cons, ih (by simpa using h) i (by simpa using hl)]
theorem Objs.closeRow {k i : Nat} {b : Value} {cs : List Cell} {s : Bool} (h : Objs w0 w (.cells b cs :: os)) (hk : os[k]? = some (.linesx v L i b)) (hs : (L[i]?).map (·.2) = some s) : Objs w0 w (os.set k (.lines v (L.set i (cs, s)))) := by
  have := h.join (w' := w) (k := k + 1) (j := 0) (o := .linesx v L i b) (oj := .cells b cs) (o' := .lines v (L.set i (cs, s))) (oj' := .none) (by simpa using hk) rfl (by omega) (fun F G hF hG hd => by
    obtain ⟨bs, h1, h3, h2⟩ := hF
    refine ⟨fun b => F b ∨ G b, fun _ => False, Chg.refl _ _, ⟨bs, ⟨by simpa using h1.len, ?_, fun j x l hm hx hl => ?_, h1.dist⟩, fun y => ?_⟩, fun _ hf => hf, fun _ _ hf => hf, fun b hb => hb.elim .inl (fun x => .inr (.inl x)), fun _ hf => hf.elim⟩
    · rw [List.length_set, hdrs_set h1.len i (cs, s) hs]; exact h1.own
    · by_cases hj : i = j
      · subst hj
        rw [h3] at hx; cases hx
        have hil : i < L.length := by rw [← h1.len]; exact (List.getElem?_eq_some_iff.1 h3).1
        rw [List.getElem?_set_self hil] at hl; cases hl
        exact hG.1
      · rw [List.getElem?_set_ne hj] at hl
        exact h1.rows j x l (by simpa using hj) hx hl
    · show F y ∨ G y ↔ _
      rw [h2, hG.2]
      constructor
      · rintro ((e | ⟨j, x, hm, hx, e⟩) | e)
        · exact .inl e
        · exact .inr ⟨j, x, by simp, hx, e⟩
        · exact .inr ⟨i, b, by simp, h3, e⟩
      · rintro (e | ⟨j, x, hm, hx, e⟩)
        · exact .inl (.inl e)
        · by_cases hj : i = j
          · subst hj; rw [h3] at hx; cases hx; exact .inr e
          · exact .inl (.inr ⟨j, x, by simpa using hj, hx, e⟩))
  simpa using this.tail
/-- What a slice of lines of which one is open holds. -/
theorem Objs.linesxRd (h : Objs w0 w os) {k i : Nat} {b : Value} (hk : os[k]? = some (.linesx v L i b)) : ∃ g c, v = .slice (some ⟨g, 0, none⟩) L.length c ∧ L.length ≤ c ∧ c ≤ maxLen ∧ i < L.length ∧ g < w.heap.size ∧ w.cell? ⟨g, i * 2, none⟩ = some b ∧ (∀ l, L[i]? = some l → w.cell? ⟨g, i * 2 + 1, none⟩ = some (.bool l.2)) ∧ ∀ j, w.frozen? ⟨g, j, none⟩ = false := by
  obtain ⟨F, bs, h1, h3, h2⟩ := h.get hk
  have hi : i < L.length := by rw [← h1.len]; exact (List.getElem?_eq_some_iff.1 h3).1
  obtain ⟨A, c, rfl, q1, q2, q3, q4⟩ := h1.form
  obtain ⟨g, rfl, q5, q6, q7, q8⟩ := q4 (by omega)
  exact ⟨g, c, rfl, q1, q2, hi, q5, q6 i b h3, q7 i, q8⟩
/-- A store into a slice of cells. -/
theorem Objs.cellsUpd {k : Nat} {cs cs' : List Cell} (hS : Objs w0 w os) (hk : os[k]? = some (.cells v cs)) (ho : OwnC w' 0 v cs') (hg : w.grownBy w' v.ownBlock) : Objs w0 w' (os.set k (.cells v cs')) :=
  hS.upd hk (fun F hF => ⟨F, Chg.of_grown hg F (fun b hb => (hF.2 b).2 hb), ⟨ho, hF.2⟩, fun b hb => .inl hb⟩)
end
end Go.Proofs.YtghahanpmcpacaaDoor

/-
  A row is broken at a column: the program's split and the reference's Break.
-/
set_option linter.unusedSimpArgs false
set_option linter.unusedVariables false
namespace Go.Proofs.YtghahanpmcpacaaDoor
open Go.RowKit

/-- A row broken at a column. -/
def brk (c : Nat) (cs : List Cell) : List Cell := match c with
  | 0 => cs
  | m + 1 => if m + 1 < cs.length ∧ (cAt cs m).width = 2 then (cs.set m (blank (cAt cs m).pen)).set (m + 1) (blank (cAt cs (m + 1)).pen) else cs
theorem brk_succ (m : Nat) (cs : List Cell) : brk (m + 1) cs = if m + 1 < cs.length ∧ (cAt cs m).width = 2 then (cs.set m (blank (cAt cs m).pen)).set (m + 1) (blank (cAt cs (m + 1)).pen) else cs := rfl
theorem brk_length (c : Nat) (cs : List Cell) : (brk c cs).length = cs.length := by
  cases c with
  | zero => rfl
  | succ m => rw [brk_succ]; split <;> simp
theorem cells_facts {w0 w : World} {os : List Ob} {k g n cap i : Nat} {cs : List Cell} {c : Cell} (S : Objs w0 w os) (hk : os[k]? = some (.cells (.slice (some ⟨g, 0, none⟩) n cap) cs)) (hi : cs[i]? = some c) :
    w.cell? ⟨g, i * 16 + 4, none⟩ = some (.int .i64 c.width) ∧ penAt w g (i * 16 + 5) = some c.pen ∧ cellAt w g (i * 16) = some c ∧ (∀ j, w.frozen? ⟨g, j, none⟩ = false) ∧ g < w.heap.size := by
  have hlt : i < cs.length := (List.getElem?_eq_some_iff.1 hi).1
  have ho := S.own hk
  obtain ⟨g', e, -, -, hz, hr⟩ := ho.head (by omega)
  cases e
  obtain ⟨h1, h2, h3⟩ := own_elem hr hlt (c := c) (by simpa [hlt] using hi)
  exact ⟨h1, h2, h3, fun j => OwnC.free ho j, hz⟩
theorem r14Blank_any (p : Pen) (w : World) : Calls Tryd.prog 60 #[.agg (pv p)] w fun e w' => e = .returned (.agg (cv (blank p))) ∧ Below w.heap.size w w' := by
  go_enter Tryd.func60, Tryd.ntmps60
  go_wp2
  exact bodyPost_ret (results_cell_row Tryd.results60 _ _ (w.heap.size + 1) 82 (cv (blank p)) (0, 0) _ rfl (heap_alloc2_new w _ _) Tryd.underlying82 rfl cell_size) rfl ⟨rfl, ((Below.refl _ _).alloc (Nat.le_refl _) _).alloc (by simp) _⟩
theorem front_call {P : Program} {f : FuncId} {args : Array Value} {k : Nat} {o o' : Ob} {r : Value} {w0 w : World} {os : List Ob} (hS : Objs w0 w os) (hk : os[k]? = some o)
    (hc : ∀ os1, Objs w0 w (o :: os1) → Calls P f args w fun e w' => e = .returned r ∧ Objs w0 w' (o' :: os1)) : Calls P f args w fun e w' => e = .returned r ∧ Objs w0 w' (os.set k o') :=
  (hc _ (hS.lift hk)).mono fun e w' ⟨h1, h2⟩ => ⟨h1, h2.lower hk⟩

set_option maxRecDepth 100000 in
set_option maxHeartbeats 2000000 in
theorem split_front (A : Option Addr) (cap : Nat) (cs : List Cell) (n : Int) (c : Nat) (hn : n = (c : Int)) (w0 w : World) (os : List Ob) (hS : Objs w0 w (.cells (.slice A cs.length cap) cs :: os)) (hlen : cs.length ≤ 1000000) (hc : c ≤ 2000000) :
    Calls Tryd.prog 70 #[.slice A cs.length cap, .int .i64 n] w fun e w' => e = .returned (.tuple #[]) ∧ Objs w0 w' (.cells (.slice A cs.length cap) (brk c cs) :: os) := by
  subst hn
  have S := Lib.hid hS
  clear hS
  cases c with
  | zero =>
    show Calls _ _ #[_, .int .i64 0] _ _
    go_enter Tryd.func70, Tryd.ntmps70
    go_wp2_with fail
    refine bodyPost_ret (results_none rfl _ _ _) rfl ?_
    exact ⟨rfl, S.out⟩
  | succ m =>
  simp only [Int.natCast_add, Int.natCast_one]
  by_cases hlt : m + 1 < cs.length
  case neg =>
    have HB := Lib.hid (show brk (m + 1) cs = cs by rw [brk_succ, if_neg (by omega)])
    have hge : ¬ ((m : Int) + 1 < cs.length) := by omega
    go_enter Tryd.func70, Tryd.ntmps70
    go_wp2_with fail
    refine bodyPost_ret (results_none rfl _ _ _) rfl ?_
    exact ⟨rfl, by rw [HB.out]; exact S.out⟩
  obtain ⟨g, rfl, -, -, -, -⟩ := (S.out.own (k := 0) rfl).head (by omega)
  have hat0 : cs[m]? = some (cAt cs m) := by rw [cAt_eq (by omega)]; simp [show m < cs.length by omega]
  have hat1 : cs[m + 1]? = some (cAt cs (m + 1)) := by rw [cAt_eq hlt]; simp [hlt]
  by_cases hw : (cAt cs m).width = 2
  case neg =>
    have HB := Lib.hid (show brk (m + 1) cs = cs by rw [brk_succ, if_neg (by simp [hw])])
    obtain ⟨hx, -⟩ := cells_facts S.out (k := 0) rfl hat0
    have hw1 := beq_no hw
    have hw2 := bne_yes hw
    clear hat0 hat1 hw
    go_enter Tryd.func70, Tryd.ntmps70
    go_wp2_with fail
    refine bodyPost_ret (results_none rfl _ _ _) rfl ?_
    exact ⟨rfl, by rw [HB.out]; exact S.out⟩
  have HB := Lib.hid (show brk (m + 1) cs = (cs.set m (blank (cAt cs m).pen)).set (m + 1) (blank (cAt cs (m + 1)).pen) by rw [brk_succ, if_pos ⟨hlt, hw⟩])
  obtain ⟨hx, -⟩ := cells_facts S.out (k := 0) rfl hat0
  have hw1 := beq_yes hw
  have hw2 := bne_no hw
  have HW := Lib.hid hw
  clear hw
  go_enter Tryd.func70, Tryd.ntmps70
  go_upto_region 1 with (fail)
  · clear hx hw1 hw2
    have hwm : IntKind.i64.wrap (m : Int) = (m : Int) := IntWalk.i64_in _ (by omega)
    have hb0 : (0 : Int) ≤ (m : Int) := by omega
    have hb1 : (m : Int) < (cs.length : Int) := by omega
    have hb2 : (0 : Int) ≤ (m : Int) + 1 := by omega
    have hb3 : (m : Int) + 1 < (cs.length : Int) := by omega
    have ht1 : ((m : Int) + 1).toNat = m + 1 := by omega
    refine wp_region_stage (w0 := w0) (os := os) (by kernel_rfl) (by kernel_rfl) (by kernel_rfl) [(0, 19, [], fun vs => .cells (.slice (some ⟨g, 0, none⟩) cs.length cap) (cs.set m (blank (cAt cs m).pen))), (0, 21, [], fun vs => .cells (.slice (some ⟨g, 0, none⟩) cs.length cap) ((cs.set m (blank (cAt cs m).pen)).set (m + 1) (blank (cAt cs (m + 1)).pen)))] [[], [], [], [], [], [], [], [], [], [], [0], [], [], [], [], [], [0], [], [], [0], [], [0]] [.cells (.slice (some ⟨g, 0, none⟩) cs.length cap) cs] (fun i u => match i with | 0 => u = (.slice (some ⟨g, 0, none⟩) cs.length cap : Value) | 1 => u = (.int .i64 (↑m + 1) : Value) | 2 => u = (.int .i64 ↑m : Value) | 3 => u = (.slice (some ⟨g, 0, none⟩) cs.length cap : Value) | 4 => u = (.int .i64 (↑m + 1) : Value) | 5 => u = (.slice (some ⟨g, 0, none⟩) cs.length cap : Value) | 6 => u = (.int .i64 (↑m + 1) : Value) | 7 => u = (.int .i64 ↑m : Value) | 8 => u = (.pointer (some ⟨g, m * 16, none⟩) : Value) | 9 => u = (.pointer (some ⟨g, m * 16 + 5, none⟩) : Value) | 10 => u = (.agg (pv (cAt cs m).pen) : Value) | 11 => u = (.agg (cv (blank (cAt cs m).pen)) : Value) | 12 => u = (.slice (some ⟨g, 0, none⟩) cs.length cap : Value) | 13 => u = (.int .i64 (↑m + 1) : Value) | 14 => u = (.pointer (some ⟨g, (m + 1) * 16, none⟩) : Value) | 15 => u = (.pointer (some ⟨g, (m + 1) * 16 + 5, none⟩) : Value) | 16 => u = (.agg (pv (cAt cs (m + 1)).pen) : Value) | 17 => u = (.agg (cv (blank (cAt cs (m + 1)).pen)) : Value) | 18 => u = (.pointer (some ⟨g, m * 16, none⟩) : Value) | 19 => True | 20 => u = (.pointer (some ⟨g, (m + 1) * 16, none⟩) : Value) | 21 => True | _ => True) (fun vs => [.cells (.slice (some ⟨g, 0, none⟩) cs.length cap) ((cs.set m (blank (cAt cs m).pen)).set (m + 1) (blank (cAt cs (m + 1)).pen))]) (by kernel_rfl) (fun vs => by rfl) S.out ?_ ?_
    · refine SSteps.cons (fun a w' vs σ hS hl hs hk => ?_) ?_
      · have e0 : a.tmps.getD 0 undef = (.slice (some ⟨g, 0, none⟩) cs.length cap : Value) := (sk_old hk 0 (by kernel_rfl)).trans rfl
        have f0 := gd e0
        exact ro_pure (v := .slice (some ⟨g, 0, none⟩) cs.length cap) (wanted_none rfl) (by simp [execOp, Act.eval, e0, f0, go_sem]) (sp_same (by kernel_rfl) hl hs hS (show (.slice (some ⟨g, 0, none⟩) cs.length cap : Value) = _ from rfl)) trivial
      refine SSteps.cons (fun a w' vs σ hS hl hs hk => ?_) ?_
      · have e1 : a.tmps.getD 1 undef = (.int .i64 (↑m + 1) : Value) := (sk_old hk 1 (by kernel_rfl)).trans rfl
        have f1 := gd e1
        exact ro_pure (v := .int .i64 (↑m + 1)) (wanted_none rfl) (by simp [execOp, Act.eval, e1, f1, go_sem]) (sp_same (by kernel_rfl) hl hs hS (show (.int .i64 (↑m + 1) : Value) = _ from rfl)) trivial
      refine SSteps.cons (fun a w' vs σ hS hl hs hk => ?_) ?_
      · have e22 : a.tmps.getD 22 undef = (.int .i64 (↑m + 1) : Value) := (sk_val hk 1 (by kernel_rfl) rfl rfl).trans ((hk.1 1 (by kernel_rfl)).1)
        have f22 := gd e22
        exact ro_pure (v := .int .i64 ↑m) (wanted_none rfl) (by simp [execOp, Act.eval, e22, f22, go_sem, hwm]) (sp_same (by kernel_rfl) hl hs hS (show (.int .i64 ↑m : Value) = _ from rfl)) trivial
      refine SSteps.cons (fun a w' vs σ hS hl hs hk => ?_) ?_
      · have e0 : a.tmps.getD 0 undef = (.slice (some ⟨g, 0, none⟩) cs.length cap : Value) := (sk_old hk 0 (by kernel_rfl)).trans rfl
        have f0 := gd e0
        exact ro_pure (v := .slice (some ⟨g, 0, none⟩) cs.length cap) (wanted_none rfl) (by simp [execOp, Act.eval, e0, f0, go_sem]) (sp_same (by kernel_rfl) hl hs hS (show (.slice (some ⟨g, 0, none⟩) cs.length cap : Value) = _ from rfl)) trivial
      refine SSteps.cons (fun a w' vs σ hS hl hs hk => ?_) ?_
      · have e1 : a.tmps.getD 1 undef = (.int .i64 (↑m + 1) : Value) := (sk_old hk 1 (by kernel_rfl)).trans rfl
        have f1 := gd e1
        exact ro_pure (v := .int .i64 (↑m + 1)) (wanted_none rfl) (by simp [execOp, Act.eval, e1, f1, go_sem]) (sp_same (by kernel_rfl) hl hs hS (show (.int .i64 (↑m + 1) : Value) = _ from rfl)) trivial
      refine SSteps.cons (fun a w' vs σ hS hl hs hk => ?_) ?_
      · have e0 : a.tmps.getD 0 undef = (.slice (some ⟨g, 0, none⟩) cs.length cap : Value) := (sk_old hk 0 (by kernel_rfl)).trans rfl
        have f0 := gd e0
        exact ro_pure (v := .slice (some ⟨g, 0, none⟩) cs.length cap) (wanted_none rfl) (by simp [execOp, Act.eval, e0, f0, go_sem]) (sp_same (by kernel_rfl) hl hs hS (show (.slice (some ⟨g, 0, none⟩) cs.length cap : Value) = _ from rfl)) trivial
      refine SSteps.cons (fun a w' vs σ hS hl hs hk => ?_) ?_
      · have e1 : a.tmps.getD 1 undef = (.int .i64 (↑m + 1) : Value) := (sk_old hk 1 (by kernel_rfl)).trans rfl
        have f1 := gd e1
        exact ro_pure (v := .int .i64 (↑m + 1)) (wanted_none rfl) (by simp [execOp, Act.eval, e1, f1, go_sem]) (sp_same (by kernel_rfl) hl hs hS (show (.int .i64 (↑m + 1) : Value) = _ from rfl)) trivial
      refine SSteps.cons (fun a w' vs σ hS hl hs hk => ?_) ?_
      · have e27 : a.tmps.getD 27 undef = (.int .i64 (↑m + 1) : Value) := (sk_val hk 6 (by kernel_rfl) rfl rfl).trans ((hk.1 6 (by kernel_rfl)).1)
        have f27 := gd e27
        exact ro_pure (v := .int .i64 ↑m) (wanted_none rfl) (by simp [execOp, Act.eval, e27, f27, go_sem, hwm]) (sp_same (by kernel_rfl) hl hs hS (show (.int .i64 ↑m : Value) = _ from rfl)) trivial
      refine SSteps.cons (fun a w' vs σ hS hl hs hk => ?_) ?_
      · have e26 : a.tmps.getD 26 undef = (.slice (some ⟨g, 0, none⟩) cs.length cap : Value) := (sk_val hk 5 (by kernel_rfl) rfl rfl).trans ((hk.1 5 (by kernel_rfl)).1)
        have f26 := gd e26
        have e28 : a.tmps.getD 28 undef = (.int .i64 ↑m : Value) := (sk_val hk 7 (by kernel_rfl) rfl rfl).trans ((hk.1 7 (by kernel_rfl)).1)
        have f28 := gd e28
        exact ro_pure (v := .pointer (some ⟨g, m * 16, none⟩)) (wanted_none rfl) (by simp [execOp, Act.eval, e26, f26, e28, f28, go_sem, hb0, hb1]) (sp_same (by kernel_rfl) hl hs hS (show (.pointer (some ⟨g, m * 16, none⟩) : Value) = _ from rfl)) trivial
      refine SSteps.cons (fun a w' vs σ hS hl hs hk => ?_) ?_
      · have e29 : a.tmps.getD 29 undef = (.pointer (some ⟨g, m * 16, none⟩) : Value) := (sk_val hk 8 (by kernel_rfl) rfl rfl).trans ((hk.1 8 (by kernel_rfl)).1)
        have f29 := gd e29
        exact ro_pure (v := .pointer (some ⟨g, m * 16 + 5, none⟩)) (wanted_none rfl) (by simp [execOp, Act.eval, e29, f29, go_sem]) (sp_same (by kernel_rfl) hl hs hS (show (.pointer (some ⟨g, m * 16 + 5, none⟩) : Value) = _ from rfl)) trivial
      refine SSteps.cons (fun a w' vs σ hS hl hs hk => ?_) ?_
      · have e30 : a.tmps.getD 30 undef = (.pointer (some ⟨g, m * 16 + 5, none⟩) : Value) := (sk_val hk 9 (by kernel_rfl) rfl rfl).trans ((hk.1 9 (by kernel_rfl)).1)
        have f30 := gd e30
        have hc := cells_facts hS (sg (hs 0 (by decide))) (i := m) (c := cAt cs m) hat0
        have hx := hc.2.1
        exact ro_pure (v := .agg (pv (cAt cs m).pen)) (wanted_none rfl) (by simp [execOp, Act.eval, e30, f30, go_sem, hx]) (sp_same (by kernel_rfl) hl hs hS (show (.agg (pv (cAt cs m).pen) : Value) = _ from rfl)) trivial
      refine SSteps.cons (fun a w' vs σ hS hl hs hk => ?_) ?_
      · have e31 : a.tmps.getD 31 undef = (.agg (pv (cAt cs m).pen) : Value) := (sk_val hk 10 (by kernel_rfl) rfl rfl).trans ((hk.1 10 (by kernel_rfl)).1)
        have f31 := gd e31
        exact ro_call (f := 87) (wanted_none rfl) rfl (by simp only [List.map_toArray, List.map_cons, List.map_nil, Act.eval, e31] <;> rfl) (fun _ _ => by kernel_rfl) ((cellBlank_any _ w').mono fun e w2 ⟨h1, h2⟩ => ⟨_, h1, sp_same (by kernel_rfl) hl hs (hS.bel h2) rfl, trivial⟩)
      refine SSteps.cons (fun a w' vs σ hS hl hs hk => ?_) ?_
      · have e0 : a.tmps.getD 0 undef = (.slice (some ⟨g, 0, none⟩) cs.length cap : Value) := (sk_old hk 0 (by kernel_rfl)).trans rfl
        have f0 := gd e0
        exact ro_pure (v := .slice (some ⟨g, 0, none⟩) cs.length cap) (wanted_none rfl) (by simp [execOp, Act.eval, e0, f0, go_sem]) (sp_same (by kernel_rfl) hl hs hS (show (.slice (some ⟨g, 0, none⟩) cs.length cap : Value) = _ from rfl)) trivial
      refine SSteps.cons (fun a w' vs σ hS hl hs hk => ?_) ?_
      · have e1 : a.tmps.getD 1 undef = (.int .i64 (↑m + 1) : Value) := (sk_old hk 1 (by kernel_rfl)).trans rfl
        have f1 := gd e1
        exact ro_pure (v := .int .i64 (↑m + 1)) (wanted_none rfl) (by simp [execOp, Act.eval, e1, f1, go_sem]) (sp_same (by kernel_rfl) hl hs hS (show (.int .i64 (↑m + 1) : Value) = _ from rfl)) trivial
      refine SSteps.cons (fun a w' vs σ hS hl hs hk => ?_) ?_
      · have e33 : a.tmps.getD 33 undef = (.slice (some ⟨g, 0, none⟩) cs.length cap : Value) := (sk_val hk 12 (by kernel_rfl) rfl rfl).trans ((hk.1 12 (by kernel_rfl)).1)
        have f33 := gd e33
        have e34 : a.tmps.getD 34 undef = (.int .i64 (↑m + 1) : Value) := (sk_val hk 13 (by kernel_rfl) rfl rfl).trans ((hk.1 13 (by kernel_rfl)).1)
        have f34 := gd e34
        exact ro_pure (v := .pointer (some ⟨g, (m + 1) * 16, none⟩)) (wanted_none rfl) (by simp [execOp, Act.eval, e33, f33, e34, f34, go_sem, hb2, hb3, ht1]) (sp_same (by kernel_rfl) hl hs hS (show (.pointer (some ⟨g, (m + 1) * 16, none⟩) : Value) = _ from rfl)) trivial
      refine SSteps.cons (fun a w' vs σ hS hl hs hk => ?_) ?_
      · have e35 : a.tmps.getD 35 undef = (.pointer (some ⟨g, (m + 1) * 16, none⟩) : Value) := (sk_val hk 14 (by kernel_rfl) rfl rfl).trans ((hk.1 14 (by kernel_rfl)).1)
        have f35 := gd e35
        exact ro_pure (v := .pointer (some ⟨g, (m + 1) * 16 + 5, none⟩)) (wanted_none rfl) (by simp [execOp, Act.eval, e35, f35, go_sem]) (sp_same (by kernel_rfl) hl hs hS (show (.pointer (some ⟨g, (m + 1) * 16 + 5, none⟩) : Value) = _ from rfl)) trivial
      refine SSteps.cons (fun a w' vs σ hS hl hs hk => ?_) ?_
      · have e36 : a.tmps.getD 36 undef = (.pointer (some ⟨g, (m + 1) * 16 + 5, none⟩) : Value) := (sk_val hk 15 (by kernel_rfl) rfl rfl).trans ((hk.1 15 (by kernel_rfl)).1)
        have f36 := gd e36
        have hc := cells_facts hS (sg (hs 0 (by decide))) (i := m + 1) (c := cAt cs (m + 1)) hat1
        have hx := hc.2.1
        exact ro_pure (v := .agg (pv (cAt cs (m + 1)).pen)) (wanted_none rfl) (by simp [execOp, Act.eval, e36, f36, go_sem, hx]) (sp_same (by kernel_rfl) hl hs hS (show (.agg (pv (cAt cs (m + 1)).pen) : Value) = _ from rfl)) trivial
      refine SSteps.cons (fun a w' vs σ hS hl hs hk => ?_) ?_
      · have e37 : a.tmps.getD 37 undef = (.agg (pv (cAt cs (m + 1)).pen) : Value) := (sk_val hk 16 (by kernel_rfl) rfl rfl).trans ((hk.1 16 (by kernel_rfl)).1)
        have f37 := gd e37
        exact ro_call (f := 87) (wanted_none rfl) rfl (by simp only [List.map_toArray, List.map_cons, List.map_nil, Act.eval, e37] <;> rfl) (fun _ _ => by kernel_rfl) ((cellBlank_any _ w').mono fun e w2 ⟨h1, h2⟩ => ⟨_, h1, sp_same (by kernel_rfl) hl hs (hS.bel h2) rfl, trivial⟩)
      refine SSteps.cons (fun a w' vs σ hS hl hs hk => ?_) ?_
      · have e21 : a.tmps.getD 21 undef = (.slice (some ⟨g, 0, none⟩) cs.length cap : Value) := (sk_val hk 0 (by kernel_rfl) rfl rfl).trans ((hk.1 0 (by kernel_rfl)).1)
        have f21 := gd e21
        have e23 : a.tmps.getD 23 undef = (.int .i64 ↑m : Value) := (sk_val hk 2 (by kernel_rfl) rfl rfl).trans ((hk.1 2 (by kernel_rfl)).1)
        have f23 := gd e23
        exact ro_pure (v := .pointer (some ⟨g, m * 16, none⟩)) (wanted_none rfl) (by simp [execOp, Act.eval, e21, f21, e23, f23, go_sem, hb0, hb1]) (sp_same (by kernel_rfl) hl hs hS (show (.pointer (some ⟨g, m * 16, none⟩) : Value) = _ from rfl)) trivial
      refine SSteps.cons (fun a w' vs σ hS hl hs hk => ?_) ?_
      · have e39 : a.tmps.getD 39 undef = (.pointer (some ⟨g, m * 16, none⟩) : Value) := (sk_val hk 18 (by kernel_rfl) rfl rfl).trans ((hk.1 18 (by kernel_rfl)).1)
        have f39 := gd e39
        have e32 : a.tmps.getD 32 undef = (.agg (cv (blank (cAt cs m).pen)) : Value) := (sk_val hk 11 (by kernel_rfl) rfl rfl).trans ((hk.1 11 (by kernel_rfl)).1)
        have f32 := gd e32
        obtain ⟨W, hst, ho, hg⟩ := (hS.own (sg (hs 0 (by decide)))).putAt (k := m) (by omega) (blank (cAt cs m).pen)
        exact rstep_store (wanted_none rfl) rfl (by simp [execOp, Act.eval, e39, f39, e32, f32, hst, go_sem]) (sp_set 0 (.cells (.slice (some ⟨g, 0, none⟩) cs.length cap) (cs.set m (blank (cAt cs m).pen))) (by kernel_rfl) (by simp) (by decide) hl hs (by rfl) (hS.cellsUpd (sg (hs 0 (by decide))) ho hg) trivial) trivial
      refine SSteps.cons (fun a w' vs σ hS hl hs hk => ?_) ?_
      · have e24 : a.tmps.getD 24 undef = (.slice (some ⟨g, 0, none⟩) cs.length cap : Value) := (sk_val hk 3 (by kernel_rfl) rfl rfl).trans ((hk.1 3 (by kernel_rfl)).1)
        have f24 := gd e24
        have e25 : a.tmps.getD 25 undef = (.int .i64 (↑m + 1) : Value) := (sk_val hk 4 (by kernel_rfl) rfl rfl).trans ((hk.1 4 (by kernel_rfl)).1)
        have f25 := gd e25
        exact ro_pure (v := .pointer (some ⟨g, (m + 1) * 16, none⟩)) (wanted_none rfl) (by simp [execOp, Act.eval, e24, f24, e25, f25, go_sem, hb2, hb3, ht1]) (sp_same (by kernel_rfl) hl hs hS (show (.pointer (some ⟨g, (m + 1) * 16, none⟩) : Value) = _ from rfl)) trivial
      refine SSteps.cons (fun a w' vs σ hS hl hs hk => ?_) ?_
      · have e40 : a.tmps.getD 40 undef = (.pointer (some ⟨g, (m + 1) * 16, none⟩) : Value) := (sk_val hk 20 (by kernel_rfl) rfl rfl).trans ((hk.1 20 (by kernel_rfl)).1)
        have f40 := gd e40
        have e38 : a.tmps.getD 38 undef = (.agg (cv (blank (cAt cs (m + 1)).pen)) : Value) := (sk_val hk 17 (by kernel_rfl) rfl rfl).trans ((hk.1 17 (by kernel_rfl)).1)
        have f38 := gd e38
        obtain ⟨W, hst, ho, hg⟩ := (hS.own (sg (hs 0 (by decide)))).putAt (k := m + 1) (by simp; omega) (blank (cAt cs (m + 1)).pen)
        exact rstep_store (wanted_none rfl) rfl (by simp [execOp, Act.eval, e40, f40, e38, f38, hst, go_sem]) (sp_set 0 (.cells (.slice (some ⟨g, 0, none⟩) cs.length cap) ((cs.set m (blank (cAt cs m).pen)).set (m + 1) (blank (cAt cs (m + 1)).pen))) (by kernel_rfl) (by simp) (by decide) hl hs (by rfl) (hS.cellsUpd (sg (hs 0 (by decide))) ho hg) trivial) trivial
      exact SSteps.nil
    · intro vs w' hS hv
      have q0 := (show vs 0 = (.slice (some ⟨g, 0, none⟩) cs.length cap : Value) from hv 0 (by decide))
      have q1 := (show vs 1 = (.int .i64 (↑m + 1) : Value) from hv 1 (by decide))
      have q2 := (show vs 2 = (.int .i64 ↑m : Value) from hv 2 (by decide))
      have q3 := (show vs 3 = (.slice (some ⟨g, 0, none⟩) cs.length cap : Value) from hv 3 (by decide))
      have q4 := (show vs 4 = (.int .i64 (↑m + 1) : Value) from hv 4 (by decide))
      have q5 := (show vs 5 = (.slice (some ⟨g, 0, none⟩) cs.length cap : Value) from hv 5 (by decide))
      have q6 := (show vs 6 = (.int .i64 (↑m + 1) : Value) from hv 6 (by decide))
      have q7 := (show vs 7 = (.int .i64 ↑m : Value) from hv 7 (by decide))
      have q8 := (show vs 8 = (.pointer (some ⟨g, m * 16, none⟩) : Value) from hv 8 (by decide))
      have q9 := (show vs 9 = (.pointer (some ⟨g, m * 16 + 5, none⟩) : Value) from hv 9 (by decide))
      have q10 := (show vs 10 = (.agg (pv (cAt cs m).pen) : Value) from hv 10 (by decide))
      have q11 := (show vs 11 = (.agg (cv (blank (cAt cs m).pen)) : Value) from hv 11 (by decide))
      have q12 := (show vs 12 = (.slice (some ⟨g, 0, none⟩) cs.length cap : Value) from hv 12 (by decide))
      have q13 := (show vs 13 = (.int .i64 (↑m + 1) : Value) from hv 13 (by decide))
      have q14 := (show vs 14 = (.pointer (some ⟨g, (m + 1) * 16, none⟩) : Value) from hv 14 (by decide))
      have q15 := (show vs 15 = (.pointer (some ⟨g, (m + 1) * 16 + 5, none⟩) : Value) from hv 15 (by decide))
      have q16 := (show vs 16 = (.agg (pv (cAt cs (m + 1)).pen) : Value) from hv 16 (by decide))
      have q17 := (show vs 17 = (.agg (cv (blank (cAt cs (m + 1)).pen)) : Value) from hv 17 (by decide))
      have q18 := (show vs 18 = (.pointer (some ⟨g, m * 16, none⟩) : Value) from hv 18 (by decide))
      have q20 := (show vs 20 = (.pointer (some ⟨g, (m + 1) * 16, none⟩) : Value) from hv 20 (by decide))
      have S2 := Lib.hid hS
      simp only [putL, Act.put, Nat.zero_add, Nat.reduceAdd, List.setIfInBounds_toArray, List.set_cons_succ, List.set_cons_zero, q0, q1, q2, q3, q4, q5, q6, q7, q8, q9, q10, q11, q12, q13, q14, q15, q16, q17, q18, q20]
      clear hS hv q0 q1 q2 q3 q4 q5 q6 q7 q8 q9 q10 q11 q12 q13 q14 q15 q16 q17 q18 q20
      go_wp2_with fail
      go_end0
      exact ⟨rfl, by rw [HB.out]; exact S2.out⟩
set_option maxRecDepth 100000 in
set_option maxHeartbeats 2000000 in
theorem break_front (A : Option Addr) (cap : Nat) (cs : List Cell) (n : Int) (c : Nat) (hn : n = (c : Int)) (w0 w : World) (os : List Ob) (hS : Objs w0 w (.cells (.slice A cs.length cap) cs :: os)) (hlen : cs.length ≤ 1000000) (hc : c ≤ 2000000) :
    Calls Tryd.prog 81 #[.slice A cs.length cap, .int .i64 n] w fun e w' => e = .returned (.tuple #[]) ∧ Objs w0 w' (.cells (.slice A cs.length cap) (brk c cs) :: os) := by
  subst hn
  have S := Lib.hid hS
  clear hS
  cases c with
  | zero =>
    show Calls _ _ #[_, .int .i64 0] _ _
    go_enter Tryd.func81, Tryd.ntmps81
    go_wp2_with fail
    go_end0
    exact ⟨rfl, S.out⟩
  | succ m =>
  simp only [Int.natCast_add, Int.natCast_one]
  by_cases hlt : m + 1 < cs.length
  case neg =>
    have HB := Lib.hid (show brk (m + 1) cs = cs by rw [brk_succ, if_neg (by omega)])
    have hge : ¬ ((m : Int) + 1 < cs.length) := by omega
    go_enter Tryd.func81, Tryd.ntmps81
    go_wp2_with fail
    go_end0
    exact ⟨rfl, by rw [HB.out]; exact S.out⟩
  obtain ⟨g, rfl, -, -, -, -⟩ := (S.out.own (k := 0) rfl).head (by omega)
  have hat0 : cs[m]? = some (cAt cs m) := by rw [cAt_eq (by omega)]; simp [show m < cs.length by omega]
  have hat1 : cs[m + 1]? = some (cAt cs (m + 1)) := by rw [cAt_eq hlt]; simp [hlt]
  by_cases hw : (cAt cs m).width = 2
  case neg =>
    have HB := Lib.hid (show brk (m + 1) cs = cs by rw [brk_succ, if_neg (by simp [hw])])
    obtain ⟨hx, -⟩ := cells_facts S.out (k := 0) rfl hat0
    have hw1 := beq_no hw
    have hw2 := bne_yes hw
    clear hat0 hat1 hw
    go_enter Tryd.func81, Tryd.ntmps81
    go_wp2_with fail
    go_end0
    exact ⟨rfl, by rw [HB.out]; exact S.out⟩
  have HB := Lib.hid (show brk (m + 1) cs = (cs.set m (blank (cAt cs m).pen)).set (m + 1) (blank (cAt cs (m + 1)).pen) by rw [brk_succ, if_pos ⟨hlt, hw⟩])
  obtain ⟨hx, -⟩ := cells_facts S.out (k := 0) rfl hat0
  have hw1 := beq_yes hw
  have hw2 := bne_no hw
  have HW := Lib.hid hw
  clear hw
  go_enter Tryd.func81, Tryd.ntmps81
  go_upto_region 1 with (fail)
  · clear hx hw1 hw2
    have hwm : IntKind.i64.wrap (m : Int) = (m : Int) := IntWalk.i64_in _ (by omega)
    have hb0 : (0 : Int) ≤ (m : Int) := by omega
    have hb1 : (m : Int) < (cs.length : Int) := by omega
    have hb2 : (0 : Int) ≤ (m : Int) + 1 := by omega
    have hb3 : (m : Int) + 1 < (cs.length : Int) := by omega
    have ht1 : ((m : Int) + 1).toNat = m + 1 := by omega
    refine wp_region_stage (w0 := w0) (os := os) (by kernel_rfl) (by kernel_rfl) (by kernel_rfl) [(0, 19, [], fun vs => .cells (.slice (some ⟨g, 0, none⟩) cs.length cap) (cs.set m (blank (cAt cs m).pen))), (0, 21, [], fun vs => .cells (.slice (some ⟨g, 0, none⟩) cs.length cap) ((cs.set m (blank (cAt cs m).pen)).set (m + 1) (blank (cAt cs (m + 1)).pen)))] [[], [], [], [], [], [], [], [], [], [], [0], [], [], [], [], [], [0], [], [], [0], [], [0]] [.cells (.slice (some ⟨g, 0, none⟩) cs.length cap) cs] (fun i u => match i with | 0 => u = (.slice (some ⟨g, 0, none⟩) cs.length cap : Value) | 1 => u = (.int .i64 (↑m + 1) : Value) | 2 => u = (.int .i64 ↑m : Value) | 3 => u = (.slice (some ⟨g, 0, none⟩) cs.length cap : Value) | 4 => u = (.int .i64 (↑m + 1) : Value) | 5 => u = (.slice (some ⟨g, 0, none⟩) cs.length cap : Value) | 6 => u = (.int .i64 (↑m + 1) : Value) | 7 => u = (.int .i64 ↑m : Value) | 8 => u = (.pointer (some ⟨g, m * 16, none⟩) : Value) | 9 => u = (.pointer (some ⟨g, m * 16 + 5, none⟩) : Value) | 10 => u = (.agg (pv (cAt cs m).pen) : Value) | 11 => u = (.agg (cv (blank (cAt cs m).pen)) : Value) | 12 => u = (.slice (some ⟨g, 0, none⟩) cs.length cap : Value) | 13 => u = (.int .i64 (↑m + 1) : Value) | 14 => u = (.pointer (some ⟨g, (m + 1) * 16, none⟩) : Value) | 15 => u = (.pointer (some ⟨g, (m + 1) * 16 + 5, none⟩) : Value) | 16 => u = (.agg (pv (cAt cs (m + 1)).pen) : Value) | 17 => u = (.agg (cv (blank (cAt cs (m + 1)).pen)) : Value) | 18 => u = (.pointer (some ⟨g, m * 16, none⟩) : Value) | 19 => True | 20 => u = (.pointer (some ⟨g, (m + 1) * 16, none⟩) : Value) | 21 => True | _ => True) (fun vs => [.cells (.slice (some ⟨g, 0, none⟩) cs.length cap) ((cs.set m (blank (cAt cs m).pen)).set (m + 1) (blank (cAt cs (m + 1)).pen))]) (by kernel_rfl) (fun vs => by rfl) S.out ?_ ?_
    · refine SSteps.cons (fun a w' vs σ hS hl hs hk => ?_) ?_
      · have e0 : a.tmps.getD 0 undef = (.slice (some ⟨g, 0, none⟩) cs.length cap : Value) := (sk_old hk 0 (by kernel_rfl)).trans rfl
        have f0 := gd e0
        exact ro_pure (v := .slice (some ⟨g, 0, none⟩) cs.length cap) (wanted_none rfl) (by simp [execOp, Act.eval, e0, f0, go_sem]) (sp_same (by kernel_rfl) hl hs hS (show (.slice (some ⟨g, 0, none⟩) cs.length cap : Value) = _ from rfl)) trivial
      refine SSteps.cons (fun a w' vs σ hS hl hs hk => ?_) ?_
      · have e1 : a.tmps.getD 1 undef = (.int .i64 (↑m + 1) : Value) := (sk_old hk 1 (by kernel_rfl)).trans rfl
        have f1 := gd e1
        exact ro_pure (v := .int .i64 (↑m + 1)) (wanted_none rfl) (by simp [execOp, Act.eval, e1, f1, go_sem]) (sp_same (by kernel_rfl) hl hs hS (show (.int .i64 (↑m + 1) : Value) = _ from rfl)) trivial
      refine SSteps.cons (fun a w' vs σ hS hl hs hk => ?_) ?_
      · have e22 : a.tmps.getD 22 undef = (.int .i64 (↑m + 1) : Value) := (sk_val hk 1 (by kernel_rfl) rfl rfl).trans ((hk.1 1 (by kernel_rfl)).1)
        have f22 := gd e22
        exact ro_pure (v := .int .i64 ↑m) (wanted_none rfl) (by simp [execOp, Act.eval, e22, f22, go_sem, hwm]) (sp_same (by kernel_rfl) hl hs hS (show (.int .i64 ↑m : Value) = _ from rfl)) trivial
      refine SSteps.cons (fun a w' vs σ hS hl hs hk => ?_) ?_
      · have e0 : a.tmps.getD 0 undef = (.slice (some ⟨g, 0, none⟩) cs.length cap : Value) := (sk_old hk 0 (by kernel_rfl)).trans rfl
        have f0 := gd e0
        exact ro_pure (v := .slice (some ⟨g, 0, none⟩) cs.length cap) (wanted_none rfl) (by simp [execOp, Act.eval, e0, f0, go_sem]) (sp_same (by kernel_rfl) hl hs hS (show (.slice (some ⟨g, 0, none⟩) cs.length cap : Value) = _ from rfl)) trivial
      refine SSteps.cons (fun a w' vs σ hS hl hs hk => ?_) ?_
      · have e1 : a.tmps.getD 1 undef = (.int .i64 (↑m + 1) : Value) := (sk_old hk 1 (by kernel_rfl)).trans rfl
        have f1 := gd e1
        exact ro_pure (v := .int .i64 (↑m + 1)) (wanted_none rfl) (by simp [execOp, Act.eval, e1, f1, go_sem]) (sp_same (by kernel_rfl) hl hs hS (show (.int .i64 (↑m + 1) : Value) = _ from rfl)) trivial
      refine SSteps.cons (fun a w' vs σ hS hl hs hk => ?_) ?_
      · have e0 : a.tmps.getD 0 undef = (.slice (some ⟨g, 0, none⟩) cs.length cap : Value) := (sk_old hk 0 (by kernel_rfl)).trans rfl
        have f0 := gd e0
        exact ro_pure (v := .slice (some ⟨g, 0, none⟩) cs.length cap) (wanted_none rfl) (by simp [execOp, Act.eval, e0, f0, go_sem]) (sp_same (by kernel_rfl) hl hs hS (show (.slice (some ⟨g, 0, none⟩) cs.length cap : Value) = _ from rfl)) trivial
      refine SSteps.cons (fun a w' vs σ hS hl hs hk => ?_) ?_
      · have e1 : a.tmps.getD 1 undef = (.int .i64 (↑m + 1) : Value) := (sk_old hk 1 (by kernel_rfl)).trans rfl
        have f1 := gd e1
        exact ro_pure (v := .int .i64 (↑m + 1)) (wanted_none rfl) (by simp [execOp, Act.eval, e1, f1, go_sem]) (sp_same (by kernel_rfl) hl hs hS (show (.int .i64 (↑m + 1) : Value) = _ from rfl)) trivial
      refine SSteps.cons (fun a w' vs σ hS hl hs hk => ?_) ?_
      · have e27 : a.tmps.getD 27 undef = (.int .i64 (↑m + 1) : Value) := (sk_val hk 6 (by kernel_rfl) rfl rfl).trans ((hk.1 6 (by kernel_rfl)).1)
        have f27 := gd e27
        exact ro_pure (v := .int .i64 ↑m) (wanted_none rfl) (by simp [execOp, Act.eval, e27, f27, go_sem, hwm]) (sp_same (by kernel_rfl) hl hs hS (show (.int .i64 ↑m : Value) = _ from rfl)) trivial
      refine SSteps.cons (fun a w' vs σ hS hl hs hk => ?_) ?_
      · have e26 : a.tmps.getD 26 undef = (.slice (some ⟨g, 0, none⟩) cs.length cap : Value) := (sk_val hk 5 (by kernel_rfl) rfl rfl).trans ((hk.1 5 (by kernel_rfl)).1)
        have f26 := gd e26
        have e28 : a.tmps.getD 28 undef = (.int .i64 ↑m : Value) := (sk_val hk 7 (by kernel_rfl) rfl rfl).trans ((hk.1 7 (by kernel_rfl)).1)
        have f28 := gd e28
        exact ro_pure (v := .pointer (some ⟨g, m * 16, none⟩)) (wanted_none rfl) (by simp [execOp, Act.eval, e26, f26, e28, f28, go_sem, hb0, hb1]) (sp_same (by kernel_rfl) hl hs hS (show (.pointer (some ⟨g, m * 16, none⟩) : Value) = _ from rfl)) trivial
      refine SSteps.cons (fun a w' vs σ hS hl hs hk => ?_) ?_
      · have e29 : a.tmps.getD 29 undef = (.pointer (some ⟨g, m * 16, none⟩) : Value) := (sk_val hk 8 (by kernel_rfl) rfl rfl).trans ((hk.1 8 (by kernel_rfl)).1)
        have f29 := gd e29
        exact ro_pure (v := .pointer (some ⟨g, m * 16 + 5, none⟩)) (wanted_none rfl) (by simp [execOp, Act.eval, e29, f29, go_sem]) (sp_same (by kernel_rfl) hl hs hS (show (.pointer (some ⟨g, m * 16 + 5, none⟩) : Value) = _ from rfl)) trivial
      refine SSteps.cons (fun a w' vs σ hS hl hs hk => ?_) ?_
      · have e30 : a.tmps.getD 30 undef = (.pointer (some ⟨g, m * 16 + 5, none⟩) : Value) := (sk_val hk 9 (by kernel_rfl) rfl rfl).trans ((hk.1 9 (by kernel_rfl)).1)
        have f30 := gd e30
        have hc := cells_facts hS (sg (hs 0 (by decide))) (i := m) (c := cAt cs m) hat0
        have hx := hc.2.1
        exact ro_pure (v := .agg (pv (cAt cs m).pen)) (wanted_none rfl) (by simp [execOp, Act.eval, e30, f30, go_sem, hx]) (sp_same (by kernel_rfl) hl hs hS (show (.agg (pv (cAt cs m).pen) : Value) = _ from rfl)) trivial
      refine SSteps.cons (fun a w' vs σ hS hl hs hk => ?_) ?_
      · have e31 : a.tmps.getD 31 undef = (.agg (pv (cAt cs m).pen) : Value) := (sk_val hk 10 (by kernel_rfl) rfl rfl).trans ((hk.1 10 (by kernel_rfl)).1)
        have f31 := gd e31
        exact ro_call (f := 60) (wanted_none rfl) rfl (by simp only [List.map_toArray, List.map_cons, List.map_nil, Act.eval, e31] <;> rfl) (fun _ _ => by kernel_rfl) ((r14Blank_any _ w').mono fun e w2 ⟨h1, h2⟩ => ⟨_, h1, sp_same (by kernel_rfl) hl hs (hS.bel h2) rfl, trivial⟩)
      refine SSteps.cons (fun a w' vs σ hS hl hs hk => ?_) ?_
      · have e0 : a.tmps.getD 0 undef = (.slice (some ⟨g, 0, none⟩) cs.length cap : Value) := (sk_old hk 0 (by kernel_rfl)).trans rfl
        have f0 := gd e0
        exact ro_pure (v := .slice (some ⟨g, 0, none⟩) cs.length cap) (wanted_none rfl) (by simp [execOp, Act.eval, e0, f0, go_sem]) (sp_same (by kernel_rfl) hl hs hS (show (.slice (some ⟨g, 0, none⟩) cs.length cap : Value) = _ from rfl)) trivial
      refine SSteps.cons (fun a w' vs σ hS hl hs hk => ?_) ?_
      · have e1 : a.tmps.getD 1 undef = (.int .i64 (↑m + 1) : Value) := (sk_old hk 1 (by kernel_rfl)).trans rfl
        have f1 := gd e1
        exact ro_pure (v := .int .i64 (↑m + 1)) (wanted_none rfl) (by simp [execOp, Act.eval, e1, f1, go_sem]) (sp_same (by kernel_rfl) hl hs hS (show (.int .i64 (↑m + 1) : Value) = _ from rfl)) trivial
      refine SSteps.cons (fun a w' vs σ hS hl hs hk => ?_) ?_
      · have e33 : a.tmps.getD 33 undef = (.slice (some ⟨g, 0, none⟩) cs.length cap : Value) := (sk_val hk 12 (by kernel_rfl) rfl rfl).trans ((hk.1 12 (by kernel_rfl)).1)
        have f33 := gd e33
        have e34 : a.tmps.getD 34 undef = (.int .i64 (↑m + 1) : Value) := (sk_val hk 13 (by kernel_rfl) rfl rfl).trans ((hk.1 13 (by kernel_rfl)).1)
        have f34 := gd e34
        exact ro_pure (v := .pointer (some ⟨g, (m + 1) * 16, none⟩)) (wanted_none rfl) (by simp [execOp, Act.eval, e33, f33, e34, f34, go_sem, hb2, hb3, ht1]) (sp_same (by kernel_rfl) hl hs hS (show (.pointer (some ⟨g, (m + 1) * 16, none⟩) : Value) = _ from rfl)) trivial
      refine SSteps.cons (fun a w' vs σ hS hl hs hk => ?_) ?_
      · have e35 : a.tmps.getD 35 undef = (.pointer (some ⟨g, (m + 1) * 16, none⟩) : Value) := (sk_val hk 14 (by kernel_rfl) rfl rfl).trans ((hk.1 14 (by kernel_rfl)).1)
        have f35 := gd e35
        exact ro_pure (v := .pointer (some ⟨g, (m + 1) * 16 + 5, none⟩)) (wanted_none rfl) (by simp [execOp, Act.eval, e35, f35, go_sem]) (sp_same (by kernel_rfl) hl hs hS (show (.pointer (some ⟨g, (m + 1) * 16 + 5, none⟩) : Value) = _ from rfl)) trivial
      refine SSteps.cons (fun a w' vs σ hS hl hs hk => ?_) ?_
      · have e36 : a.tmps.getD 36 undef = (.pointer (some ⟨g, (m + 1) * 16 + 5, none⟩) : Value) := (sk_val hk 15 (by kernel_rfl) rfl rfl).trans ((hk.1 15 (by kernel_rfl)).1)
        have f36 := gd e36
        have hc := cells_facts hS (sg (hs 0 (by decide))) (i := m + 1) (c := cAt cs (m + 1)) hat1
        have hx := hc.2.1
        exact ro_pure (v := .agg (pv (cAt cs (m + 1)).pen)) (wanted_none rfl) (by simp [execOp, Act.eval, e36, f36, go_sem, hx]) (sp_same (by kernel_rfl) hl hs hS (show (.agg (pv (cAt cs (m + 1)).pen) : Value) = _ from rfl)) trivial
      refine SSteps.cons (fun a w' vs σ hS hl hs hk => ?_) ?_
      · have e37 : a.tmps.getD 37 undef = (.agg (pv (cAt cs (m + 1)).pen) : Value) := (sk_val hk 16 (by kernel_rfl) rfl rfl).trans ((hk.1 16 (by kernel_rfl)).1)
        have f37 := gd e37
        exact ro_call (f := 60) (wanted_none rfl) rfl (by simp only [List.map_toArray, List.map_cons, List.map_nil, Act.eval, e37] <;> rfl) (fun _ _ => by kernel_rfl) ((r14Blank_any _ w').mono fun e w2 ⟨h1, h2⟩ => ⟨_, h1, sp_same (by kernel_rfl) hl hs (hS.bel h2) rfl, trivial⟩)
      refine SSteps.cons (fun a w' vs σ hS hl hs hk => ?_) ?_
      · have e21 : a.tmps.getD 21 undef = (.slice (some ⟨g, 0, none⟩) cs.length cap : Value) := (sk_val hk 0 (by kernel_rfl) rfl rfl).trans ((hk.1 0 (by kernel_rfl)).1)
        have f21 := gd e21
        have e23 : a.tmps.getD 23 undef = (.int .i64 ↑m : Value) := (sk_val hk 2 (by kernel_rfl) rfl rfl).trans ((hk.1 2 (by kernel_rfl)).1)
        have f23 := gd e23
        exact ro_pure (v := .pointer (some ⟨g, m * 16, none⟩)) (wanted_none rfl) (by simp [execOp, Act.eval, e21, f21, e23, f23, go_sem, hb0, hb1]) (sp_same (by kernel_rfl) hl hs hS (show (.pointer (some ⟨g, m * 16, none⟩) : Value) = _ from rfl)) trivial
      refine SSteps.cons (fun a w' vs σ hS hl hs hk => ?_) ?_
      · have e39 : a.tmps.getD 39 undef = (.pointer (some ⟨g, m * 16, none⟩) : Value) := (sk_val hk 18 (by kernel_rfl) rfl rfl).trans ((hk.1 18 (by kernel_rfl)).1)
        have f39 := gd e39
        have e32 : a.tmps.getD 32 undef = (.agg (cv (blank (cAt cs m).pen)) : Value) := (sk_val hk 11 (by kernel_rfl) rfl rfl).trans ((hk.1 11 (by kernel_rfl)).1)
        have f32 := gd e32
        obtain ⟨W, hst, ho, hg⟩ := (hS.own (sg (hs 0 (by decide)))).putAt (k := m) (by omega) (blank (cAt cs m).pen)
        exact rstep_store (wanted_none rfl) rfl (by simp [execOp, Act.eval, e39, f39, e32, f32, hst, go_sem]) (sp_set 0 (.cells (.slice (some ⟨g, 0, none⟩) cs.length cap) (cs.set m (blank (cAt cs m).pen))) (by kernel_rfl) (by simp) (by decide) hl hs (by rfl) (hS.cellsUpd (sg (hs 0 (by decide))) ho hg) trivial) trivial
      refine SSteps.cons (fun a w' vs σ hS hl hs hk => ?_) ?_
      · have e24 : a.tmps.getD 24 undef = (.slice (some ⟨g, 0, none⟩) cs.length cap : Value) := (sk_val hk 3 (by kernel_rfl) rfl rfl).trans ((hk.1 3 (by kernel_rfl)).1)
        have f24 := gd e24
        have e25 : a.tmps.getD 25 undef = (.int .i64 (↑m + 1) : Value) := (sk_val hk 4 (by kernel_rfl) rfl rfl).trans ((hk.1 4 (by kernel_rfl)).1)
        have f25 := gd e25
        exact ro_pure (v := .pointer (some ⟨g, (m + 1) * 16, none⟩)) (wanted_none rfl) (by simp [execOp, Act.eval, e24, f24, e25, f25, go_sem, hb2, hb3, ht1]) (sp_same (by kernel_rfl) hl hs hS (show (.pointer (some ⟨g, (m + 1) * 16, none⟩) : Value) = _ from rfl)) trivial
      refine SSteps.cons (fun a w' vs σ hS hl hs hk => ?_) ?_
      · have e40 : a.tmps.getD 40 undef = (.pointer (some ⟨g, (m + 1) * 16, none⟩) : Value) := (sk_val hk 20 (by kernel_rfl) rfl rfl).trans ((hk.1 20 (by kernel_rfl)).1)
        have f40 := gd e40
        have e38 : a.tmps.getD 38 undef = (.agg (cv (blank (cAt cs (m + 1)).pen)) : Value) := (sk_val hk 17 (by kernel_rfl) rfl rfl).trans ((hk.1 17 (by kernel_rfl)).1)
        have f38 := gd e38
        obtain ⟨W, hst, ho, hg⟩ := (hS.own (sg (hs 0 (by decide)))).putAt (k := m + 1) (by simp; omega) (blank (cAt cs (m + 1)).pen)
        exact rstep_store (wanted_none rfl) rfl (by simp [execOp, Act.eval, e40, f40, e38, f38, hst, go_sem]) (sp_set 0 (.cells (.slice (some ⟨g, 0, none⟩) cs.length cap) ((cs.set m (blank (cAt cs m).pen)).set (m + 1) (blank (cAt cs (m + 1)).pen))) (by kernel_rfl) (by simp) (by decide) hl hs (by rfl) (hS.cellsUpd (sg (hs 0 (by decide))) ho hg) trivial) trivial
      exact SSteps.nil
    · intro vs w' hS hv
      have q0 := (show vs 0 = (.slice (some ⟨g, 0, none⟩) cs.length cap : Value) from hv 0 (by decide))
      have q1 := (show vs 1 = (.int .i64 (↑m + 1) : Value) from hv 1 (by decide))
      have q2 := (show vs 2 = (.int .i64 ↑m : Value) from hv 2 (by decide))
      have q3 := (show vs 3 = (.slice (some ⟨g, 0, none⟩) cs.length cap : Value) from hv 3 (by decide))
      have q4 := (show vs 4 = (.int .i64 (↑m + 1) : Value) from hv 4 (by decide))
      have q5 := (show vs 5 = (.slice (some ⟨g, 0, none⟩) cs.length cap : Value) from hv 5 (by decide))
      have q6 := (show vs 6 = (.int .i64 (↑m + 1) : Value) from hv 6 (by decide))
      have q7 := (show vs 7 = (.int .i64 ↑m : Value) from hv 7 (by decide))
      have q8 := (show vs 8 = (.pointer (some ⟨g, m * 16, none⟩) : Value) from hv 8 (by decide))
      have q9 := (show vs 9 = (.pointer (some ⟨g, m * 16 + 5, none⟩) : Value) from hv 9 (by decide))
      have q10 := (show vs 10 = (.agg (pv (cAt cs m).pen) : Value) from hv 10 (by decide))
      have q11 := (show vs 11 = (.agg (cv (blank (cAt cs m).pen)) : Value) from hv 11 (by decide))
      have q12 := (show vs 12 = (.slice (some ⟨g, 0, none⟩) cs.length cap : Value) from hv 12 (by decide))
      have q13 := (show vs 13 = (.int .i64 (↑m + 1) : Value) from hv 13 (by decide))
      have q14 := (show vs 14 = (.pointer (some ⟨g, (m + 1) * 16, none⟩) : Value) from hv 14 (by decide))
      have q15 := (show vs 15 = (.pointer (some ⟨g, (m + 1) * 16 + 5, none⟩) : Value) from hv 15 (by decide))
      have q16 := (show vs 16 = (.agg (pv (cAt cs (m + 1)).pen) : Value) from hv 16 (by decide))
      have q17 := (show vs 17 = (.agg (cv (blank (cAt cs (m + 1)).pen)) : Value) from hv 17 (by decide))
      have q18 := (show vs 18 = (.pointer (some ⟨g, m * 16, none⟩) : Value) from hv 18 (by decide))
      have q20 := (show vs 20 = (.pointer (some ⟨g, (m + 1) * 16, none⟩) : Value) from hv 20 (by decide))
      have S2 := Lib.hid hS
      simp only [putL, Act.put, Nat.zero_add, Nat.reduceAdd, List.setIfInBounds_toArray, List.set_cons_succ, List.set_cons_zero, q0, q1, q2, q3, q4, q5, q6, q7, q8, q9, q10, q11, q12, q13, q14, q15, q16, q17, q18, q20]
      clear hS hv q0 q1 q2 q3 q4 q5 q6 q7 q8 q9 q10 q11 q12 q13 q14 q15 q16 q17 q18 q20
      go_wp2_with fail
      go_end0
      exact ⟨rfl, by rw [HB.out]; exact S2.out⟩
theorem split_at {A : Option Addr} {n0 cap c : Nat} {cs : List Cell} {n : Int} {w0 w : World} {os : List Ob} (hS : Objs w0 w (.cells (.slice A n0 cap) cs :: os)) (hn0 : n0 = cs.length) (hn : n = (c : Int)) (hlen : cs.length ≤ 1000000) (hc : c ≤ 2000000) :
    Calls Tryd.prog 70 #[.slice A n0 cap, .int .i64 n] w fun e w' => e = .returned (.tuple #[]) ∧ Objs w0 w' (.cells (.slice A n0 cap) (brk c cs) :: os) := by
  subst hn0
  exact split_front A cap cs n c hn w0 w os hS hlen hc
theorem break_at {A : Option Addr} {n0 cap c : Nat} {cs : List Cell} {n : Int} {w0 w : World} {os : List Ob} (hS : Objs w0 w (.cells (.slice A n0 cap) cs :: os)) (hn0 : n0 = cs.length) (hn : n = (c : Int)) (hlen : cs.length ≤ 1000000) (hc : c ≤ 2000000) :
    Calls Tryd.prog 81 #[.slice A n0 cap, .int .i64 n] w fun e w' => e = .returned (.tuple #[]) ∧ Objs w0 w' (.cells (.slice A n0 cap) (brk c cs) :: os) := by
  subst hn0
  exact break_front A cap cs n c hn w0 w os hS hlen hc
end Go.Proofs.YtghahanpmcpacaaDoor

/-
  append onto slices of cells and onto slices of lines, slices built of one cell or one line: as steps of the walk, and of regions that draw.
-/
set_option linter.unusedSimpArgs false
set_option linter.unusedVariables false
namespace Go.Proofs.YtghahanpmcpacaaDoor
open Go.RowKit

theorem line_info : (Tryd.prog.info? 79).map (fun i => (i.zero, i.size, i.bytes)) = some (some (.agg #[.slice none 0 0, .bool false]), 2, 32) := by kernel_rfl
theorem set_self {α : Type} {l : List α} {k : Nat} {x : α} (h : l[k]? = some x) : l.set k x = l := by
  apply List.ext_getElem?
  intro n
  by_cases hn : k = n
  · subst hn; rw [List.getElem?_set_self (List.getElem?_eq_some_iff.1 h).1, h]
  · rw [List.getElem?_set_ne hn]
theorem lv_one {v : Value} {cs : List Cell} {w : World} {B : Nat} (h : OwnC w B v cs) : v.oneCell' = true := by
  obtain ⟨A, c, rfl, _⟩ := h.form
  rfl
section
variable {w0 w : World} {os : List Ob} {v b : Value} {cs ds : List Cell} {L : List Ln} {k j : Nat}
/-- append(v, x...) onto cells. -/
theorem run_appO (hS : Objs w0 w os) (hk : os[k]? = some (.cells v cs)) {A : Option Addr} {c : Nat} (hr : RdC w A c ds) (hlen : cs.length + ds.length ≤ 1000000) (ty : TypeId) :
    ∃ v' w', (Builtin.append_ #[53, 53] ty #[v, .slice A ds.length c]).run Tryd.prog w = .ok v' w' ∧ Objs w0 w' (os.set k (.cells v' (cs ++ ds))) ∧ ∃ A' c', v' = .slice A' (cs.length + ds.length) c' := by
  obtain ⟨i, hi, hz0, hz1, hz2⟩ := info_parts cell_info
  obtain ⟨h1, h2, h3⟩ := hr
  have hown := hS.own hk
  cases A with
  | none =>
    obtain rfl := h2 rfl
    obtain rfl : ds = [] := List.eq_nil_of_length_eq_zero (by omega)
    have hrun := run_append_owned_none (P := Tryd.prog) (w := w) 0 53 ty 82 i 16 Tryd.underlying53 hi v cs.length (flat cs) hown
    obtain ⟨A', c', e, _⟩ := hown.form
    refine ⟨v, w, hrun, ?_, A', c', by simpa using e⟩
    rw [List.append_nil, set_self hk]; exact hS
  | some ad =>
    obtain ⟨v', w', hrun, g1, g2, g3, g4⟩ := run_append_own_at (P := Tryd.prog) (w := w) 0 53 ty 82 i _ 16 64 Tryd.underlying53 hi hz0 hz1 hz2 (by simp [Value.cells, cv_size]) (by omega) v cs.length (flat cs) hown ad ds.length c (flat ds) (flat_length ds) (by
      intro j u hu
      have hj : j < ds.length * 16 := by have := (List.getElem?_eq_some_iff.1 hu).1; rwa [flat_length] at this
      obtain ⟨b, off, e, _, hr⟩ := h3 (by omega)
      cases e
      rw [add_at]; exact hr j u hu) (flat_one ds) (by simp only [maxLen]; omega) (by omega) (Nat.zero_le _)
    have ho' : OwnC w' 0 v' (cs ++ ds) := by unfold OwnC; rw [flat_append, List.length_append]; exact g1
    obtain ⟨A', c', e, _⟩ := ho'.form
    refine ⟨v', w', hrun, hS.upd hk (fun F hF => ⟨fun b => v'.ownBlock = some b, Chg.of_grown g2 F (fun b hb => (hF.2 b).2 hb), ⟨ho', fun _ => Iff.rfl⟩, fun b hb => ?_⟩), A', c', by simpa using e⟩
    rcases g4 with g4 | g4
    · exact .inl ((hF.2 b).2 (by rw [← g4]; exact hb))
    · rw [g4] at hb; cases hb; exact .inr (Nat.le_refl _)
theorem hdrs_snoc {bs : List Value} (h : bs.length = L.length) (b : Value) (l : Ln) : hdrs (bs ++ [b]) (L ++ [l]) = hdrs bs L ++ [b, .bool l.2] := hdrs_append (L2 := [l]) (b2 := [b]) h
/-- append(v, l) onto lines: the line's cells are the slice's from then on. -/
theorem run_appL (hS : Objs w0 w os) (hk : os[k]? = some (.lines v L)) (hj : os[j]? = some (.cells b cs)) (hkj : k ≠ j) {ad : Addr} {c : Nat} {s : Bool} (h0 : w.cell? ad = some b) (h1 : w.cell? (ad.add 1) = some (.bool s)) (hlen : L.length ≤ 1000000) (ty : TypeId) :
    ∃ v' w', (Builtin.append_ #[35, 35] ty #[v, .slice (some ad) 1 c]).run Tryd.prog w = .ok v' w' ∧ Objs w0 w' ((os.set k (.lines v' (L ++ [(cs, s)]))).set j .none) ∧ ∃ A' c', v' = .slice A' (L.length + 1) c' := by
  obtain ⟨i, hi, hz0, hz1, hz2⟩ := info_parts line_info
  obtain ⟨F, bs, hb1, hb2⟩ := hS.get hk
  have hob := hS.own hj
  obtain ⟨v', w', hrun, g1, g2, g3, g4⟩ := run_append_own_at (P := Tryd.prog) (w := w) 0 35 ty 79 i _ 2 32 Tryd.underlying35 hi hz0 hz1 hz2 (by simp [Value.cells]) (by omega) v L.length (hdrs bs L) hb1.own ad 1 c [b, .bool s] rfl (by
    intro j u hu
    match j with
    | 0 => simp at hu; subst hu; rw [Addr.add_zero']; exact h0
    | 1 => simp at hu; subst hu; exact h1
    | j + 2 => simp at hu) (by intro u hu; simp at hu; rcases hu with rfl | rfl; exact lv_one hob; rfl) (by simp only [maxLen]; omega) (by omega) (Nat.zero_le _)
  have hrow : w'.ownsRow 0 79 2 v' (L ++ [(cs, s)]).length (hdrs (bs ++ [b]) (L ++ [(cs, s)])) := by rw [hdrs_snoc hb1.len, List.length_append]; exact g1
  obtain ⟨A', c', e, _⟩ := own_form hrow
  refine ⟨v', w', hrun, hS.join hk hj hkj (fun F G hF hG hd => ?_), A', c', by simpa using e⟩
  obtain ⟨bs2, q1, q2⟩ := hF
  obtain rfl := hb1.same q1
  have hchg : Chg (fun x => v.ownBlock = some x) w w' := Chg.of_grown g2 _ (fun b hb => hb)
  have hnb : ∀ x, b.ownBlock = some x → ¬ (v.ownBlock = some x) := fun x hx hv => own_apart (by decide) q1.own hob hv hx
  refine ⟨LF v' (bs2 ++ [b]) none, fun _ => False, hchg.mono (fun x _ hx => .inl ((q2 x).2 (.inl hx))), ⟨bs2 ++ [b], ⟨by simp [q1.len], hrow, fun n x l _ hx hl => ?_, fun n m x y z hx hy hxz hyz => ?_⟩, fun _ => Iff.rfl⟩, fun _ hf => hf, fun _ _ hf => hf, fun x hx => ?_, fun _ hf => hf.elim⟩
  · rcases Nat.lt_or_ge n bs2.length with hn | hn
    · rw [List.getElem?_append_left hn] at hx
      rw [List.getElem?_append_left (by rw [← q1.len]; exact hn)] at hl
      have ho := q1.rows n x l (by simp) hx hl
      exact own_chg ho hchg (fun y hy hv => own_apart (by decide) q1.own ho hv hy)
    · have hn' : n = bs2.length := by have := (List.getElem?_eq_some_iff.1 hx).1; simp at this; omega
      subst hn'
      rw [List.getElem?_append_right (Nat.le_refl _)] at hx
      rw [q1.len, List.getElem?_append_right (Nat.le_refl _)] at hl
      simp at hx hl
      subst hx hl
      exact own_chg hob hchg hnb
  · have key : ∀ n x, (bs2 ++ [b])[n]? = some x → x.ownBlock = some z → (n < bs2.length ∧ bs2[n]? = some x) ∨ (n = bs2.length ∧ x = b) := fun n x hx _ => by
      rcases Nat.lt_or_ge n bs2.length with hn | hn
      · rw [List.getElem?_append_left hn] at hx; exact .inl ⟨hn, hx⟩
      · have hn' : n = bs2.length := by have := (List.getElem?_eq_some_iff.1 hx).1; simp at this; omega
        subst hn'
        rw [List.getElem?_append_right (Nat.le_refl _)] at hx
        simp at hx
        exact .inr ⟨rfl, hx.symm⟩
    rcases key n x hx hxz with ⟨a1, a2⟩ | ⟨a1, rfl⟩ <;> rcases key m y hy hyz with ⟨b1, b2⟩ | ⟨b1, rfl⟩
    · exact q1.dist n m x y z a2 b2 hxz hyz
    · exact (hd z ((q2 z).2 (.inr ⟨n, x, by simp, a2, hxz⟩)) ((hG.2 z).2 hyz)).elim
    · exact (hd z ((q2 z).2 (.inr ⟨m, y, by simp, b2, hyz⟩)) ((hG.2 z).2 hxz)).elim
    · omega
  · rcases hx with hx | ⟨n, y, _, hy, hyx⟩
    · rcases g4 with g4 | g4
      · exact .inl ((q2 x).2 (.inl (by rw [← g4]; exact hx)))
      · rw [g4] at hx; cases hx; exact .inr (.inr (Nat.le_refl _))
    · rcases Nat.lt_or_ge n bs2.length with hn | hn
      · rw [List.getElem?_append_left hn] at hy
        exact .inl ((q2 x).2 (.inr ⟨n, y, by simp, hy, hyx⟩))
      · have hn' : n = bs2.length := by have := (List.getElem?_eq_some_iff.1 hy).1; simp at this; omega
        subst hn'
        rw [List.getElem?_append_right (Nat.le_refl _)] at hy
        simp at hy
        subst hy
        exact .inr (.inl ((hG.2 x).2 hyx))
/-- A nil slice of lines, of cells, among the objects. -/
theorem Objs.nilLines (h : Objs w0 w os) : Objs w0 w (.lines (.slice none 0 0) [] :: os) :=
  h.cons (w' := w) (Below.refl _ _) (G := fun _ => False) ⟨[], ⟨rfl, ⟨by simp [hdrs], .inl ⟨rfl, rfl⟩⟩, fun i b l _ hb => by simp at hb, fun i j b c g hb => by simp at hb⟩, fun b => ⟨fun h => h.elim, fun h => by rcases h with h | ⟨i, x, _, hx, _⟩; cases h; simp at hx⟩⟩ (fun _ hf => hf.elim)
theorem Objs.nilCells (h : Objs w0 w os) : Objs w0 w (.cells (.slice none 0 0) [] :: os) :=
  h.cons (w' := w) (Below.refl _ _) (G := fun _ => False) ⟨OwnC.nil w 0, fun b => ⟨fun h => h.elim, fun h => by cases h⟩⟩ (fun _ hf => hf.elim)
/-- What an own slice of cells reads as. -/
theorem Objs.cellsRd (h : Objs w0 w os) (hk : os[k]? = some (.cells v cs)) : ∃ A c, v = .slice A cs.length c ∧ RdC w A c cs := (h.own hk).form
end

section
variable {ops : Array Oper} {rest : List Oper} {o : Oper} {a : Act} {w : World} {Q : Exit → Act → World → Prop} {Φ : Value → World → Prop}
theorem exec_app {t : TypeId} {s x : Operand} (ho : o.op = .call { callee := .builtin .append, args := #[s, x], argTypes := #[t, t] }) {vs vx v' : Value} {w' : World} (hs : a.eval s = vs) (hx : a.eval x = vx) (hr : (Builtin.append_ #[t, t] o.type #[vs, vx]).run Tryd.prog w = .ok v' w') : (execOp a.eval o).run Tryd.prog w = .ok (.value v') w' := by
  simp [execOp, ho, resolve, invoke, builtin, hs, hx, hr, Result.andThen]
/-- append as a step: of the walk, of a region that draws. -/
theorem wpList_app {t : TypeId} (s x : Operand) (hw : Region.wanted o (yielded ops a.tmps) = true) (ho : o.op = .call { callee := .builtin .append, args := #[s, x], argTypes := #[t, t] }) {vs vx v' : Value} {w' : World} (hs : a.eval s = vs) (hx : a.eval x = vx) (hr : (Builtin.append_ #[t, t] o.type #[vs, vx]).run Tryd.prog w = .ok v' w')
    (h : wpList Tryd.prog ops Q rest (a.put o.dst v') w') : wpList Tryd.prog ops Q (o :: rest) a w := wpList_run hw (exec_app ho hs hx hr) h
theorem rs_run {v' : Value} {w' : World} (hw : Region.wanted o (yielded ops a.tmps) = true) (hr : (execOp a.eval o).run Tryd.prog w = .ok (.value v') w') (h : Φ v' w') : RStep Tryd.prog ops Q Φ (fun _ _ => True) o a w := rstep_value hw hr h trivial
theorem exec_bsl {t : TypeId} {n : Nat} {parts : Array (Nat × Operand)} {vs : Array (Nat × Value)} {v : Value} {w' : World} (ho : o.op = .buildSlice t n parts) (hv : (parts.map fun (i, x) => (i, a.eval x)) = vs) (hr : (Instr.buildSlice t n vs).run Tryd.prog w = .ok v w') : (execOp a.eval o).run Tryd.prog w = .ok (.value v) w' := by
  subst hv
  unfold execOp
  simp only [ho, Sem.run_bind, hr, Result.andThen_ok, Sem.run_pure]
/-- A slice built of one line. -/
theorem run_bsl (v : Value) (s : Bool) (w : World) : (Instr.buildSlice 35 1 #[(0, .agg #[v, .bool s])]).run Tryd.prog w = .ok (.slice (some ⟨w.heap.size, 0, none⟩) 1 1) (w.alloc (.cells #[v, .bool s] 79)) := by kernel_rfl
end
end Go.Proofs.YtghahanpmcpacaaDoor

/-
  Lines of blank cells; cells made blank.
-/
set_option linter.unusedSimpArgs false
set_option linter.unusedVariables false
namespace Go.Proofs.YtghahanpmcpacaaDoor
open Go.RowKit

set_option maxRecDepth 100000 in
set_option maxHeartbeats 2000000 in
theorem r14Blanks_any (n : Nat) (hn : n ≤ 100000) (p : Pen) (w0 w : World) (os : List Ob) (hS : Objs w0 w os) :
    Calls Tryd.prog 78 #[.int .i64 n, .agg (pv p)] w fun e w' => ∃ v, e = .returned (.agg #[v, .bool false]) ∧ Objs w0 w' (.cells v (List.replicate n (blank p)) :: os) := by
  have S0 := Lib.hid hS
  clear hS
  go_enter Tryd.func78, Tryd.ntmps78
  go_wp2_with fail
  refine at_objsC S0.out.alloc3 (fun W S1 => ?_)
  generalize w.heap.size + 1 + 1 = b5 at S1 ⊢
  generalize w.heap.size + 1 = b4 at S1 ⊢
  generalize w.heap.size = b3 at S1 ⊢
  have S1 := Lib.hid S1
  go_loopw [6] (fun i wr => ∃ (k : Nat) (v : Value), k ≤ n ∧ i = .int .i64 k ∧ Objs w0 wr (.cells v (List.replicate k (blank p)) :: .box b5 79 #[v, .bool false] :: .box b4 79 #[.slice none 0 0, .bool false] :: .box b3 31 (pv p) :: os)) (fun i _ => n - (intOf i).toNat)
  case atStart => exact ⟨0, _, Nat.zero_le _, rfl, S1.out.nilCells⟩
  case round =>
    obtain ⟨k, v, hk, rfl, hS⟩ := hrel
    have S := Lib.hid hS
    clear hS
    by_cases hlt : k < n
    · go_upto_region 5 with (fail)
      refine wp_region_stage (w0 := w0) (os := os) (by kernel_rfl) (by kernel_rfl) (by kernel_rfl) [(0, 4, [4], fun vs => .cells (vs 4) [blank p]), (1, 5, [5], fun vs => .cells (vs 5) (List.replicate (k + 1) (blank p))), (2, 7, [5], fun vs => .box b5 79 #[vs 5, .bool false])] [[], [2], [4], [], [0], [0, 1], [], [2]] [.none, .cells v (List.replicate k (blank p)), .box b5 79 #[v, .bool false], .box b4 79 #[.slice none 0 0, .bool false], .box b3 31 (pv p)] (fun i u => match i with | 0 => u = (.pointer (some ⟨b5, 0, none⟩) : Value) | 1 => u = (v : Value) | 2 => u = (.agg (pv p) : Value) | 3 => u = (.agg (cv (blank p)) : Value) | 4 => ∃ g, u = .slice (some ⟨g, 0, none⟩) 1 1 | 5 => ∃ A c, u = .slice A (k + 1) c | 6 => u = (.pointer (some ⟨b5, 0, none⟩) : Value) | 7 => True | _ => True) (fun vs => [.cells (vs 4) [blank p], .cells (vs 5) (List.replicate (k + 1) (blank p)), .box b5 79 #[vs 5, .bool false], .box b4 79 #[.slice none 0 0, .bool false], .box b3 31 (pv p)]) (by kernel_rfl) (fun vs => by rfl) S.out.pad ?_ ?_
      · refine SSteps.cons (fun a w' vs σ hS hl hs hk => ?_) ?_
        · have e5 : a.tmps.getD 5 undef = (.pointer (some ⟨b5, 0, none⟩) : Value) := (sk_old hk 5 (by kernel_rfl)).trans rfl
          have f5 := gd e5
          exact ro_pure (v := .pointer (some ⟨b5, 0, none⟩)) (wanted_none rfl) (by simp [execOp, Act.eval, e5, f5, go_sem]) (sp_same (by kernel_rfl) hl hs hS (show (.pointer (some ⟨b5, 0, none⟩) : Value) = _ from rfl)) trivial
        refine SSteps.cons (fun a w' vs σ hS hl hs hk => ?_) ?_
        · have e12 : a.tmps.getD 12 undef = (.pointer (some ⟨b5, 0, none⟩) : Value) := (sk_val hk 0 (by kernel_rfl) rfl rfl).trans ((hk.1 0 (by kernel_rfl)).1)
          have f12 := gd e12
          have hx := (hS.box (sg (hs 2 (by decide)))).cell
          exact ro_pure (v := v) (wanted_none rfl) (by simp [execOp, Act.eval, e12, f12, go_sem, hx]) (sp_same (by kernel_rfl) hl hs hS (show (v : Value) = _ from rfl)) trivial
        refine SSteps.cons (fun a w' vs σ hS hl hs hk => ?_) ?_
        · have e3 : a.tmps.getD 3 undef = (.pointer (some ⟨b3, 0, none⟩) : Value) := (sk_old hk 3 (by kernel_rfl)).trans rfl
          have f3 := gd e3
          have hx := (hS.box (sg (hs 4 (by decide)))).penAt
          exact ro_pure (v := .agg (pv p)) (wanted_none rfl) (by simp [execOp, Act.eval, e3, f3, go_sem, hx]) (sp_same (by kernel_rfl) hl hs hS (show (.agg (pv p) : Value) = _ from rfl)) trivial
        refine SSteps.cons (fun a w' vs σ hS hl hs hk => ?_) ?_
        · have e14 : a.tmps.getD 14 undef = (.agg (pv p) : Value) := (sk_val hk 2 (by kernel_rfl) rfl rfl).trans ((hk.1 2 (by kernel_rfl)).1)
          have f14 := gd e14
          exact ro_call (f := 60) (wanted_none rfl) rfl (by simp only [List.map_toArray, List.map_cons, List.map_nil, Act.eval, e14] <;> rfl) (fun _ _ => by kernel_rfl) ((r14Blank_any _ w').mono fun e w2 ⟨h1, h2⟩ => ⟨_, h1, sp_same (by kernel_rfl) hl hs (hS.bel h2) rfl, trivial⟩)
        refine SSteps.cons (fun a w' vs σ hS hl hs hk => ?_) ?_
        · have e15 : a.tmps.getD 15 undef = (.agg (cv (blank p)) : Value) := (sk_val hk 3 (by kernel_rfl) rfl rfl).trans ((hk.1 3 (by kernel_rfl)).1)
          have f15 := gd e15
          exact rs_run (wanted_none rfl) (exec_bsl rfl (by simp [Act.eval, e15, f15]) (run_bs1 (blank p) w')) (sp_set 0 (.cells (.slice (some ⟨w'.heap.size, 0, none⟩) 1 1) [blank p]) (by kernel_rfl) (by simp) (by decide) hl hs (by rfl) ((hS.newCells (belA _ _) (by simpa [fv, flat] using OwnC.one w' (blank p) (Nat.le_refl _))).place (sg (hs 0 (by decide)))) ⟨_, rfl⟩)
        refine SSteps.cons (fun a w' vs σ hS hl hs hk => ?_) ?_
        · have e13 : a.tmps.getD 13 undef = (v : Value) := (sk_val hk 1 (by kernel_rfl) rfl rfl).trans ((hk.1 1 (by kernel_rfl)).1)
          have f13 := gd e13
          have e16 : a.tmps.getD 16 undef = vs 4 := sk_val hk 4 (by kernel_rfl) rfl rfl
          have p16 : (fun u : Value => ∃ g, u = .slice (some ⟨g, 0, none⟩) 1 1) (vs 4) := (hk.1 4 (by kernel_rfl)).1
          have f16 := gd e16
          have h1 : σ[1]? = some (.cells v (List.replicate k (blank p))) := hs 1 (by decide)
          have h0 : σ[0]? = some (.cells (vs 4) [blank p]) := hs 0 (by decide)
          obtain ⟨A2, c2, q1, q2⟩ := hS.cellsRd (sg h0)
          obtain ⟨v2, w2, hr, hS2, A3, c3, hv3⟩ := run_appO hS (sg h1) q2 (by simp; omega) 53
          have hrep : (List.replicate k (blank p)) ++ [blank p] = (List.replicate (k + 1) (blank p)) := (List.replicate_succ' ..).symm
          rw [hrep] at hS2
          exact rs_run (wanted_none rfl) (exec_app rfl (by simp [Act.eval, e13, f13]) (by simp only [Act.eval]; exact (e16.trans q1)) hr) (sp_set 1 (.cells v2 (List.replicate (k + 1) (blank p))) (by kernel_rfl) (by simp) (by decide) hl hs (by rfl) hS2 ⟨A3, c3, by rw [hv3]; simp⟩)
        refine SSteps.cons (fun a w' vs σ hS hl hs hk => ?_) ?_
        · have e5 : a.tmps.getD 5 undef = (.pointer (some ⟨b5, 0, none⟩) : Value) := (sk_old hk 5 (by kernel_rfl)).trans rfl
          have f5 := gd e5
          exact ro_pure (v := .pointer (some ⟨b5, 0, none⟩)) (wanted_none rfl) (by simp [execOp, Act.eval, e5, f5, go_sem]) (sp_same (by kernel_rfl) hl hs hS (show (.pointer (some ⟨b5, 0, none⟩) : Value) = _ from rfl)) trivial
        refine SSteps.cons (fun a w' vs σ hS hl hs hk => ?_) ?_
        · have e18 : a.tmps.getD 18 undef = (.pointer (some ⟨b5, 0, none⟩) : Value) := (sk_val hk 6 (by kernel_rfl) rfl rfl).trans ((hk.1 6 (by kernel_rfl)).1)
          have f18 := gd e18
          have e17 : a.tmps.getD 17 undef = vs 5 := sk_val hk 5 (by kernel_rfl) rfl rfl
          have p17 : (fun u : Value => ∃ A c, u = .slice A (k + 1) c) (vs 5) := (hk.1 5 (by kernel_rfl)).1
          have f17 := gd e17
          have h2 : σ[2]? = some (.box b5 79 #[v, .bool false]) := hs 2 (by decide)
          obtain ⟨hx, hf, hz⟩ := (hS.box (sg h2)).facts
          obtain ⟨A3, c3, q3⟩ := p17
          exact rstep_store (w2 := w'.setCell ⟨b5, 0, none⟩ (.slice A3 (k + 1) c3)) (wanted_none rfl) rfl (by simp [execOp, Act.eval, e18, f18, e17, f17, q3, hx, hf, hz, go_sem]) (sp_set 2 (.box b5 79 #[vs 5, .bool false]) (by kernel_rfl) (by simp) (by decide) hl hs (by rfl) (by rw [q3]; exact hS.setBox 2 (sg h2)) trivial) trivial
        exact SSteps.nil
      · intro vs w' hS hv
        have q0 := (show vs 0 = (.pointer (some ⟨b5, 0, none⟩) : Value) from hv 0 (by decide))
        have q1 := (show vs 1 = (v : Value) from hv 1 (by decide))
        have q2 := (show vs 2 = (.agg (pv p) : Value) from hv 2 (by decide))
        have q3 := (show vs 3 = (.agg (cv (blank p)) : Value) from hv 3 (by decide))
        have q6 := (show vs 6 = (.pointer (some ⟨b5, 0, none⟩) : Value) from hv 6 (by decide))
        have q5 := hv 5 (by decide)
        obtain ⟨A5, c5, q5⟩ := (show ∃ A c, vs 5 = .slice A (k + 1) c from q5)
        rw [q5] at hS
        have S2 := Lib.hid hS
        simp only [putL, Act.put, Nat.zero_add, Nat.reduceAdd, List.setIfInBounds_toArray, List.set_cons_succ, List.set_cons_zero, q0, q1, q2, q3, q6]
        clear hS hv q0 q1 q2 q3 q6
        go_wp2_with fail
        go_roundw
        case rel => exact ⟨k + 1, .slice A5 (k + 1) c5, by omega, by go_num, S2.out.tail⟩
        case measure => simp [intOf]; omega
    · obtain rfl : k = n := by omega
      obtain ⟨hx5, hf5, hz5⟩ := (S.out.box (k := 1) rfl).facts
      obtain ⟨hx4, hf4, hz4⟩ := (S.out.box (k := 2) rfl).facts
      obtain ⟨A, c, hv, -⟩ := S.out.cellsRd (k := 0) rfl
      rw [List.length_replicate] at hv
      subst hv
      go_wp2_with fail
      have S2 := S.out.setLine 2 (.slice A k c) false rfl
      refine bodyPost_ret (results_c1 Tryd.results78 _ _ b4 _ _ rfl (S2.box (k := 2) rfl) Tryd.underlying79 rfl line_size) rfl ?_
      exact ⟨_, rfl, S2.drop2.drop2.drop2⟩

set_option maxRecDepth 100000 in
set_option maxHeartbeats 2000000 in
theorem gridblanks_any (n : Nat) (hn : n ≤ 1000) (p : Pen) (w0 w : World) (os : List Ob) (hS : Objs w0 w os) :
    Calls Tryd.prog 67 #[.int .i64 n, .agg (pv p)] w fun e w' => ∃ v, e = .returned (.agg #[v, .bool false]) ∧ Objs w0 w' (.cells v (List.replicate n (blank p)) :: os) := by
  have S0 := Lib.hid hS
  clear hS
  go_enter Tryd.func67, Tryd.ntmps67
  go_wp2_with fail
  refine (pure_call (cellBlank_any _ _) S0.out.alloc2).mono ?_
  rintro e w1 ⟨rfl, hS⟩
  have S1 := Lib.hid hS
  clear hS
  go_wp2_with (refine wpList_bs1 rfl _ rfl (blank p) rfl ?_)
  refine (repeat_any (blank p) n hn _ _ _ (RdC.lit _ _)).mono ?_
  rintro e w2 ⟨v, rfl, ho, hb⟩
  have S2 := Lib.hid (S1.out.newCells (bel1 hb) (own_low ho (by simp)))
  clear ho hb
  obtain ⟨hx, hf, hz⟩ := (S2.out.box (k := 1) rfl).facts
  obtain ⟨A, c, hv, -⟩ := S2.out.cellsRd (k := 0) rfl
  rw [List.length_replicate] at hv
  subst hv
  go_wp2_with fail
  have S3 := S2.out.setLine 1 (.slice A n c) false rfl
  refine bodyPost_ret (results_c1 Tryd.results67 _ _ (w.heap.size + 1) _ _ rfl (S3.box (k := 1) rfl) Tryd.underlying79 rfl line_size) rfl ?_
  exact ⟨_, rfl, S3.drop2.drop2⟩
end Go.Proofs.YtghahanpmcpacaaDoor

/-
  Grids: what is asked of one.
-/
set_option linter.unusedSimpArgs false
set_option linter.unusedVariables false
namespace Go.Proofs.YtghahanpmcpacaaDoor
open Go.RowKit

def Rect (n : Nat) (L : List Ln) : Prop := ∀ l ∈ L, l.1.length = n
theorem Rect.at_ {n : Nat} {L : List Ln} (h : Rect n L) {i : Nat} {l : Ln} (hl : L[i]? = some l) : l.1.length = n := h l (List.mem_of_getElem? hl)
def thereE (row : Int) (L : List Ln) : Int := if 0 ≤ row ∧ row < L.length then 0 else 3
def atE (row col : Int) (cols : Nat) (L : List Ln) : Int := if (0 ≤ row ∧ row < L.length) ∧ (0 ≤ col ∧ col < cols) then 0 else 3
theorem there_cases (row : Int) (L : List Ln) : (row < 0 ∧ Hid (thereE row L = 3)) ∨ ((0 ≤ row ∧ row < L.length) ∧ Hid (thereE row L = 0)) ∨ ((0 ≤ row ∧ (L.length : Int) ≤ row) ∧ Hid (thereE row L = 3)) := by
  by_cases h : row < 0
  · exact .inl ⟨h, Lib.hid (if_neg (by omega))⟩
  · by_cases h2 : row < L.length
    · exact .inr (.inl ⟨⟨by omega, h2⟩, Lib.hid (if_pos ⟨by omega, h2⟩)⟩)
    · exact .inr (.inr ⟨⟨by omega, by omega⟩, Lib.hid (if_neg (by omega))⟩)
theorem at_cases {row : Int} {L : List Ln} (hr : 0 ≤ row ∧ row < L.length) (col : Int) (cols : Nat) : (col < 0 ∧ Hid (atE row col cols L = 3)) ∨ ((0 ≤ col ∧ col < cols) ∧ Hid (atE row col cols L = 0)) ∨ ((0 ≤ col ∧ (cols : Int) ≤ col) ∧ Hid (atE row col cols L = 3)) := by
  by_cases h : col < 0
  · exact .inl ⟨h, Lib.hid (if_neg (by omega))⟩
  · by_cases h2 : col < cols
    · exact .inr (.inl ⟨⟨by omega, h2⟩, Lib.hid (if_pos ⟨hr, by omega, h2⟩)⟩)
    · exact .inr (.inr ⟨⟨by omega, by omega⟩, Lib.hid (if_neg (by omega))⟩)
section
variable {w0 w : World} {os : List Ob} {k p : Nat} {cols : Nat} {L : List Ln}
theorem none_no (hS : Objs w0 w os) (hk : os[k]? = some (.grid p 37 cols L)) (hc : 0 < cols) : Calls Tryd.prog 58 #[.pointer (some ⟨p, 0, none⟩)] w fun e w' => e = .returned (.bool false) ∧ Objs w0 w' os := by
  obtain ⟨A, c, hB, -, -⟩ := hS.gridRd hk
  obtain ⟨hx, hf, hz⟩ := hB.facts
  have h0 : ((cols : Int) == 0) = false := by simp; omega
  have S := Lib.hid hS
  clear hS
  go_enter Tryd.func58, Tryd.ntmps58
  go_wp2_with fail
  go_ret
  exact ⟨rfl, S.out⟩
theorem Rows_any {cols : Int} {t : TypeId} (hS : Objs w0 w os) (hk : os[k]? = some (.grid p t cols L)) : Calls Tryd.prog 39 #[.pointer (some ⟨p, 0, none⟩)] w fun e w' => e = .returned (.int .i64 L.length) ∧ Objs w0 w' os := by
  obtain ⟨A, c, hB, hm, hr⟩ := hS.gridRd hk
  have hlen : L.length ≤ 9223372036854775807 := by have := hr.1; unfold maxLen at hm; omega
  obtain ⟨hx, hf, hz⟩ := hB.facts
  have S := Lib.hid hS
  clear hS hr hm
  go_enter Tryd.func39, Tryd.ntmps39
  go_wp2_with fail
  go_ret
  exact ⟨rfl, S.out⟩
set_option maxHeartbeats 400000 in
theorem there_any (row : Int) (hS : Objs w0 w os) (hk : os[k]? = some (.grid p 37 cols L)) (hc : 0 < cols) : Calls Tryd.prog 82 #[.pointer (some ⟨p, 0, none⟩), .int .i64 row] w fun e w' => e = .returned (.int .i64 (thereE row L)) ∧ Objs w0 w' os := by
  have S := Lib.hid hS
  obtain ⟨A0, c0, hB0, hm, hr⟩ := hS.gridRd hk
  have hlen : L.length ≤ 9223372036854775807 := by have := hr.1; unfold maxLen at hm; omega
  clear hS hB0 hr hm
  have HK := Lib.hid hk
  clear hk
  rcases there_cases row L with ⟨h, HT⟩ | ⟨⟨h, h2⟩, HT⟩ | ⟨⟨h, h2⟩, HT⟩
  all_goals
    go_enter Tryd.func82, Tryd.ntmps82
    go_wp2_with fail
    refine (none_no S.out HK.out hc).mono ?_
    rintro e w1 ⟨rfl, hS⟩
    obtain ⟨A, c, hB, -, -⟩ := hS.gridRd HK.out
    obtain ⟨hx, hf, hz⟩ := hB.facts
    have S1 := Lib.hid hS
    clear hS hB
    go_wp2_with fail
    go_ret
    exact ⟨by rw [HT.out]; rfl, S1.out⟩
set_option maxHeartbeats 400000 in
theorem at_any (row col : Int) (hS : Objs w0 w os) (hk : os[k]? = some (.grid p 37 cols L)) (hc : 0 < cols) : Calls Tryd.prog 69 #[.pointer (some ⟨p, 0, none⟩), .int .i64 row, .int .i64 col] w fun e w' => e = .returned (.int .i64 (atE row col cols L)) ∧ Objs w0 w' os := by
  have S := Lib.hid hS
  have HK := Lib.hid hk
  clear hS hk
  by_cases hr : 0 ≤ row ∧ row < L.length
  case neg =>
    have HT := Lib.hid (show atE row col cols L = 3 by unfold atE; rw [if_neg (by omega)])
    have HE := Lib.hid (show thereE row L = 3 by unfold thereE; rw [if_neg hr])
    clear hr
    go_enter Tryd.func69, Tryd.ntmps69
    go_wp2_with fail
    refine (there_any row S.out HK.out hc).mono ?_
    rw [HE.out]
    rintro e w1 ⟨rfl, hS⟩
    have S1 := Lib.hid hS
    clear hS
    go_wp2_with fail
    go_ret
    exact ⟨by rw [HT.out]; rfl, S1.out⟩
  have HE := Lib.hid (show thereE row L = 0 by unfold thereE; rw [if_pos hr])
  rcases at_cases hr col cols with ⟨h, HT⟩ | ⟨⟨h, h2⟩, HT⟩ | ⟨⟨h, h2⟩, HT⟩
  all_goals
    clear hr
    go_enter Tryd.func69, Tryd.ntmps69
    go_wp2_with fail
    refine (there_any row S.out HK.out hc).mono ?_
    rw [HE.out]
    rintro e w1 ⟨rfl, hS⟩
    obtain ⟨A, c, hB, -, -⟩ := hS.gridRd HK.out
    obtain ⟨hx, hf, hz⟩ := hB.facts
    have S1 := Lib.hid hS
    clear hS hB
    go_wp2_with fail
    go_ret
    exact ⟨by rw [HT.out]; rfl, S1.out⟩
end
/-- Whether a pen is valid, as the program asks, and the law. -/
theorem inked_any (q : Pen) {w0 w : World} {os : List Ob} (hT : Tabs w0) (hS : Objs w0 w os) : Calls Tryd.prog 65 #[.agg (pv q)] w fun e w' => e = .returned (.bool q.ok) ∧ Objs w0 w' os := by
  have S := Lib.hid hS
  have HT := Lib.hid hT
  clear hS hT
  go_enter Tryd.func65, Tryd.ntmps65
  go_wp2_with fail
  refine (pure_call (cellBlank_any _ _) S.out.alloc1).mono ?_
  rintro e w1 ⟨rfl, hS⟩
  have S1 := Lib.hid hS
  clear hS
  go_wp2_with fail
  refine (pure_call (cellValid_any _ _ (S1.out.tabs HT.out)) S1.out).mono ?_
  rw [ok_blank]
  rintro e w2 ⟨rfl, hS⟩
  have S2 := Lib.hid hS
  clear hS
  go_wp2_with fail
  go_ret
  exact ⟨rfl, S2.out.tail⟩
section
variable {w0 w : World} {os : List Ob} {k p : Nat} {cols : Nat} {L : List Ln}
set_option maxHeartbeats 400000 in
theorem Cell_yes {i j : Nat} {l : Ln} {x : Cell} (hS : Objs w0 w os) (hk : os[k]? = some (.grid p 37 cols L)) (hc : 0 < cols) (hj : j < cols) (hl : L[i]? = some l) (hx : l.1[j]? = some x) :
    Calls Tryd.prog 73 #[.pointer (some ⟨p, 0, none⟩), .int .i64 i, .int .i64 j] w fun e w' => e = .returned (.tuple #[.agg (cv x), .int .i64 0]) ∧ Objs w0 w' os := by
  have S := Lib.hid hS
  have HK := Lib.hid hk
  have HL := Lib.hid hl
  have HX := Lib.hid hx
  have hi : i < L.length := (List.getElem?_eq_some_iff.1 hl).1
  have hj2 : j < l.1.length := (List.getElem?_eq_some_iff.1 hx).1
  have HE := Lib.hid (show atE i j cols L = 0 by unfold atE; rw [if_pos ⟨⟨by omega, by omega⟩, by omega, by omega⟩])
  clear hS hk hl hx
  go_enter Tryd.func73, Tryd.ntmps73
  go_wp2_with fail
  refine (at_any i j S.out.alloc1 (k := k + 1) HK.out hc).mono ?_
  rw [HE.out]
  rintro e w1 ⟨rfl, hS⟩
  have S1 := Lib.hid hS
  obtain ⟨A, c, hB, hm, hr⟩ := hS.gridRd (k := k + 1) HK.out
  have hlen : L.length ≤ 9223372036854775807 := by have := hr.1; unfold maxLen at hm; omega
  obtain ⟨hx0, hf0, hz0⟩ := hB.facts
  obtain ⟨b, off, A', c', rfl, hz1, hc1, hc2, hrd⟩ := hr.at_ HL.out
  obtain ⟨b2, off2, rfl, hz2, hrg⟩ := hrd.at_ hj2
  have hce := elem_cell hrg hj2
  have hcx : l.1[j] = x := by have := HX.out; simpa [hj2] using this
  rw [hcx] at hce
  obtain ⟨hx6, hf6, hz6⟩ := (hS.box (k := 0) rfl).facts
  have hst := store_cv_row w1 w.heap.size (cv cell0) x (hS.box (k := 0) rfl) (cv_size _)
  clear hS hB hm hr hrd hrg hcx
  go_wp2_with fail
  have S2 := S1.out.rowBox 0 (ds := cv x) rfl
  refine bodyPost_ret (results_ct Tryd.results73 _ _ w.heap.size _ _ rfl (S2.box (k := 0) rfl) Tryd.underlying82 rfl cell_size) rfl ?_
  exact ⟨rfl, S2.tail⟩
end
end Go.Proofs.YtghahanpmcpacaaDoor

/-
  Parts of slices of cells; copy within one.
-/
set_option linter.unusedSimpArgs false
set_option linter.unusedVariables false
namespace Go.Proofs.YtghahanpmcpacaaDoor
open Go.RowKit

/-- Where a slice stands from element k on. -/
def tailA (A : Option Addr) (c k : Nat) : Option Addr := if c = k then A else A.map (·.add (k * 16))
theorem RdC.from {w : World} {A : Option Addr} {c : Nat} {cs : List Cell} (h : RdC w A c cs) (k : Nat) (hk : k ≤ cs.length) : RdC w (tailA A c k) (c - k) (cs.drop k) := by
  refine ⟨by have := h.1; simp; omega, fun e => ?_, fun hn => ?_⟩
  · unfold tailA at e
    split at e
    · omega
    · have : A = none := by cases A with
        | none => rfl
        | some ad => cases e
      have := h.2.1 this
      omega
  · simp at hn
    obtain ⟨b, off, e, hlt, hr⟩ := h.2.2 (by omega)
    subst e
    unfold tailA
    rw [if_neg (by have := h.1; omega)]
    exact ⟨b, off + k * 16, by simp [add_at], hlt, RdC.drop hr k⟩
section
variable {w0 w : World} {os : List Ob}
end
/-- A value of which all is known, in a region that draws. -/
theorem inked_is {q : Pen} {b : Bool} (h : q.ok = b) {w0 w : World} {os : List Ob} (hT : Tabs w0) (hS : Objs w0 w os) : Calls Tryd.prog 65 #[.agg (pv q)] w fun e w' => e = .returned (.bool b) ∧ Objs w0 w' os := h ▸ inked_any q hT hS
end Go.Proofs.YtghahanpmcpacaaDoor

/-
  Stores into a slice of lines: whether a line is soft, a line's cells.
-/
set_option linter.unusedSimpArgs false
set_option linter.unusedVariables false
namespace Go.Proofs.YtghahanpmcpacaaDoor
open Go.RowKit

theorem hdrs_set0 {bs : List Value} {L : List Ln} (h : bs.length = L.length) {i : Nat} (hi : i < L.length) (b : Value) (l : Ln) : hdrs (bs.set i b) (L.set i l) = ((hdrs bs L).set (i * 2) b).set (i * 2 + 1) (.bool l.2) := by
  induction bs generalizing L i with
  | nil => cases L with | nil => simp at hi | cons a L => simp at h
  | cons x bs ih => cases L with
    | nil => simp at h
    | cons a L => cases i with
      | zero => rfl
      | succ i =>
        simp only [List.set_cons_succ, hdrs_cons]
        rw [ih (by simpa using h) (by simpa using hi), show (i + 1) * 2 = i * 2 + 1 + 1 by omega]
        rfl
section
variable {w0 w : World} {os : List Ob} {L : List Ln} {v b : Value}
/-- A line of a slice of lines is soft, or not, from then on. -/
theorem Objs.storeSoft {k i gr n c : Nat} {l : Ln} {s : Bool} (hS : Objs w0 w os) (hk : os[k]? = some (.lines (.slice (some ⟨gr, 0, none⟩) n c) L)) (hl : L[i]? = some l) :
    Objs w0 (w.setCell ⟨gr, i * 2 + 1, none⟩ (.bool s)) (os.set k (.lines (.slice (some ⟨gr, 0, none⟩) n c) (L.set i (l.1, s)))) := by
  refine hS.upd hk (fun F hF => ?_)
  obtain ⟨bs, q1, q3⟩ := hF
  obtain rfl : n = L.length := by obtain ⟨A', c', e, -⟩ := own_form q1.own; simp only [Value.slice.injEq] at e; exact e.2.1
  have hi : i < L.length := (List.getElem?_eq_some_iff.1 hl).1
  have hib : i < bs.length := by rw [q1.len]; exact hi
  have hchg : Chg (fun x => x = gr) w (w.setCell ⟨gr, i * 2 + 1, none⟩ (.bool s)) := chg_setCell w ⟨gr, i * 2 + 1, none⟩ (.bool s)
  obtain ⟨h1, h2⟩ := World.ownsRow.stored q1.own (i * 2 + 1) (.bool s)
  have hset : (hdrs bs L).set (i * 2 + 1) (.bool s) = hdrs bs (L.set i (l.1, s)) := by
    have hb : bs.set i bs[i] = bs := set_self (by simp [hib])
    have := hdrs_set0 q1.len hi bs[i] (l.1, s)
    rw [hb] at this
    rw [this, set_self (l := hdrs bs L) (k := i * 2) (by rw [hdrs_at0 q1.len]; simp [hib])]
  refine ⟨F, hchg.mono (fun x _ hx => (q3 x).2 (.inl (by rw [hx]; rfl))), ⟨bs, ⟨by simp [q1.len], ?_, fun m x y _ hx hy => ?_, q1.dist⟩, q3⟩, fun b hb => .inl hb⟩
  · rw [List.length_set, ← hset]
    simpa using h1
  · have hne : ∀ (u : Value) (ds : List Cell), OwnC w 0 u ds → ∀ y, u.ownBlock = some y → ¬ y = gr := fun u ds ho y hy e => own_apart (by decide) q1.own ho rfl (by rw [← e]; exact hy)
    by_cases hm : i = m
    · subst hm
      rw [List.getElem?_set_self hi] at hy
      cases hy
      have ho := q1.rows i x l (by simp) hx hl
      exact own_chg ho hchg (hne _ _ ho)
    · rw [List.getElem?_set_ne hm] at hy
      have ho := q1.rows m x y (by simp) hx hy
      exact own_chg ho hchg (hne _ _ ho)
end
end Go.Proofs.YtghahanpmcpacaaDoor

/-
  Lines of a grid: copies of all its rows.
-/
set_option linter.unusedSimpArgs false
set_option linter.unusedVariables false
namespace Go.Proofs.YtghahanpmcpacaaDoor
open Go.RowKit

section
variable {w0 w : World} {os : List Ob}
theorem Objs.linesRd' (h : Objs w0 w os) {A : Option Addr} {n c k : Nat} {L : List Ln} (hk : os[k]? = some (.lines (.slice A n c) L)) : n = L.length ∧ c ≤ maxLen ∧ RdL w A c L := by
  obtain ⟨A', c', e, h1, h2⟩ := h.linesRd hk
  simp only [Value.slice.injEq] at e
  obtain ⟨rfl, e2, rfl⟩ := e
  exact ⟨e2, h1, h2⟩
theorem Objs.lowerNew {x o o' : Ob} {k : Nat} (hk : os[k]? = some o) (h : Objs w0 w (x :: o' :: os.set k .none)) : Objs w0 w (x :: os.set k o') := by
  have h1 := h.move (i := 1) (j := k + 2) (o := o') rfl (by simpa using set_none_get hk) (by omega)
  have h2 := h1.del 1
  simpa [List.set_set] using h2
theorem front_new {P : Program} {f : FuncId} {args : Array Value} {k : Nat} {o o' : Ob} {r : Value → Value} {nw : Value → Ob} (hS : Objs w0 w os) (hk : os[k]? = some o)
    (hc : ∀ os1, Objs w0 w (o :: os1) → Calls P f args w fun e w' => ∃ v, e = .returned (r v) ∧ Objs w0 w' (nw v :: o' :: os1)) : Calls P f args w fun e w' => ∃ v, e = .returned (r v) ∧ Objs w0 w' (nw v :: os.set k o') :=
  (hc _ (hS.lift hk)).mono fun e w' ⟨v, h1, h2⟩ => ⟨v, h1, h2.lowerNew hk⟩
end
section
variable {ops : Array Oper} {rest : List Oper} {o : Oper} {a : Act} {w : World} {Q : Exit → Act → World → Prop}
theorem wpList_bsl (hw : Region.wanted o (yielded ops a.tmps) = true) (x0 : Operand) (ho : o.op = .buildSlice 35 1 #[(0, x0)]) {v : Value} {s : Bool} (h0 : a.eval x0 = .agg #[v, .bool s])
    (h : wpList Tryd.prog ops Q rest (a.put o.dst (.slice (some ⟨w.heap.size, 0, none⟩) 1 1)) (w.alloc (.cells #[v, .bool s] 79))) : wpList Tryd.prog ops Q (o :: rest) a w :=
  wpList_run hw (exec_bsl ho (by simp [h0]) (run_bsl v s w)) h
end
section
variable {w0 w : World} {os : List Ob} {p cols : Nat} {L : List Ln}
set_option maxRecDepth 100000 in
set_option maxHeartbeats 2000000 in
theorem Lines_front (hS : Objs w0 w (.grid p 37 cols L :: os)) (hc : 0 < cols) (hn : ∀ l ∈ L, l.1.length ≤ 1000000) (hL : L.length ≤ 1000000) :
    Calls Tryd.prog 23 #[.pointer (some ⟨p, 0, none⟩)] w fun e w' => ∃ v, e = .returned v ∧ Objs w0 w' (.lines v L :: .grid p 37 cols L :: os) := by
  have S := Lib.hid hS
  have HN := Lib.hid hn
  clear hS hn
  go_enter Tryd.func23, Tryd.ntmps23
  go_wp2_with fail
  refine (none_no S.out (k := 0) rfl hc).mono ?_
  rintro e w1 ⟨rfl, hS⟩
  obtain ⟨vG, hS1⟩ := hS.openGrid (k := 0) rfl
  obtain ⟨A, c, rfl, hcm, -⟩ := hS1.linesRd (k := 0) rfl
  obtain ⟨hx0, hf0, hz0⟩ := (hS1.box (k := 1) rfl).facts
  have S1 := Lib.hid hS1
  clear hS hS1 S hcm
  go_wp2_with fail
  go_loopw [3, 5, 13] (fun v _ x wr => ∃ n : Nat, n ≤ L.length ∧ x = .int .i64 n ∧ Objs w0 wr (.lines v (L.take n) :: .lines (.slice A L.length c) L :: .box p 37 #[.int .i64 cols, .slice A L.length c] :: os)) (fun _ _ x _ => L.length - (intOf x).toNat)
  case atStart => exact ⟨0, Nat.zero_le _, rfl, S1.out.nilLines⟩
  case round =>
    obtain ⟨n, hnl, rfl, hS⟩ := hrel
    by_cases hlt : n < L.length
    · have hl : L[n]? = some L[n] := by simp [hlt]
      obtain ⟨b, off, A', c', rfl, hz1, hc1, hc2, hrd⟩ := (hS.linesRd' (k := 1) rfl).2.2.at_ hl
      have HRD := Lib.hid hrd
      have S2 := Lib.hid hS
      have HL := Lib.hid hl
      clear hrd hS hl
      go_wp2_with fail
      refine (lineCopy_any A' c' L[n].1 L[n].2 _ (HRD.out.alloc _) (HN.out _ (List.getElem_mem hlt))).mono ?_
      rintro e w2 ⟨v2, rfl, ho, hb⟩
      have hS3 := (S2.out.alloc1.newCells hb ho).alloc1 (c1 := #[v2, .bool L[n].2]) (t1 := 79)
      obtain ⟨v5, w5, hr5, hS5, A5, c5, hv5⟩ := run_appL hS3 (k := 3) (j := 1) (ad := ⟨w2.heap.size, 0, none⟩) (c := 1) (s := L[n].2) rfl rfl (by decide) (by rw [(hS3.box (k := 0) rfl).cell]; rfl) (by rw [add_at, (hS3.box (k := 0) rfl).cell]; rfl) (by simp; omega) 35
      have htk : L.take n ++ [(L[n].1, L[n].2)] = L.take (n + 1) := by rw [List.take_succ_eq_append_getElem hlt]
      rw [htk] at hS5
      have S5 := Lib.hid (((hS5.del 0).del 0).del 0)
      have HV := Lib.hid hv5
      clear hS3 hS5 htk hv5 ho hb hz1 hc1 hc2
      go_wp2_with (first | (refine wpList_bsl (wanted_none rfl) _ rfl (v := v2) (s := L[n].2) rfl ?_) | (at_builtin; refine wpList_app _ _ (wanted_none rfl) rfl rfl rfl hr5 ?_))
      go_roundw
      case rel => exact ⟨n + 1, by omega, by go_num, S5.out⟩
      case measure => simp [intOf]; omega
    · have hnn : L.take n = L := List.take_of_length_le (by omega)
      rw [hnn] at hS
      have S6 := Lib.hid (((hS.lift (k := 1) rfl).closeGrid (k := 2) rfl).del 1)
      clear hS hnn
      go_wp2_with fail
      go_ret
      exact ⟨_, rfl, S6.out⟩
theorem Lines_any {k : Nat} (hS : Objs w0 w os) (hk : os[k]? = some (.grid p 37 cols L)) (hc : 0 < cols) (hn : ∀ l ∈ L, l.1.length ≤ 1000000) (hL : L.length ≤ 1000000) :
    Calls Tryd.prog 23 #[.pointer (some ⟨p, 0, none⟩)] w fun e w' => ∃ v, e = .returned v ∧ Objs w0 w' (.lines v L :: os) :=
  (front_new (r := id) (nw := fun v => .lines v L) (o' := .grid p 37 cols L) hS hk (fun os1 h => Lines_front h hc hn hL)).mono fun e w' ⟨v, h1, h2⟩ => ⟨v, h1, by rw [set_self hk] at h2; exact h2⟩
end
end Go.Proofs.YtghahanpmcpacaaDoor

/-
  New: grids of empty cells.
-/
set_option linter.unusedSimpArgs false
set_option linter.unusedVariables false
namespace Go.Proofs.YtghahanpmcpacaaDoor
open Go.RowKit

/-- The slice in a line's value; the block that a slice, a pointer stands in. -/
def lineV : Value → Value
  | .agg a => a.getD 0 undef
  | v => v
def blkOf : Value → Nat
  | .slice (some ad) _ _ => ad.block
  | .pointer (some ad) => ad.block
  | _ => 0
set_option maxRecDepth 100000 in
set_option maxHeartbeats 4000000 in
theorem gridNew_yes (rows cols : Nat) (h1 : 1 ≤ rows) (h2 : rows ≤ 1000) (h3 : 1 ≤ cols) (h4 : cols ≤ 1000) (w0 w : World) (os : List Ob) (hS : Objs w0 w os) :
    Calls Tryd.prog 40 #[.int .i64 rows, .int .i64 cols] w fun e w' => ∃ p, e = .returned (.tuple #[.pointer (some ⟨p, 0, none⟩), .int .i64 0]) ∧ Objs w0 w' (.grid p 37 cols (List.replicate rows ((List.replicate cols (blank pen0)), false)) :: os) := by
  have S0 := Lib.hid hS
  clear hS
  go_enter Tryd.func40, Tryd.ntmps40
  go_wp2_with fail
  refine at_objsC S0.out.alloc1 (fun W S1 => ?_)
  generalize w.heap.size = p at S1 ⊢
  have S1 := Lib.hid S1
  clear S0
  go_loopw [25] (fun x wr => ∃ (k : Nat) (v : Value), k ≤ rows ∧ x = .int .i64 k ∧ Objs w0 wr (.lines v (List.replicate k ((List.replicate cols (blank pen0)), false)) :: .box p 37 #[.int .i64 ↑cols, v] :: os)) (fun x _ => rows - (intOf x).toNat)
  case atStart => exact ⟨0, _, Nat.zero_le _, rfl, S1.out.nilLines⟩
  case round =>
    obtain ⟨k, v, hk, rfl, hS⟩ := hrel
    have S := Lib.hid hS
    clear hS
    by_cases hlt : k < rows
    · go_upto_region 6 with (fail)
      refine wp_region_stage (w0 := w0) (os := os) (by kernel_rfl) (by kernel_rfl) (by kernel_rfl) [(0, 7, [7], fun vs => .cells (lineV (vs 7)) (List.replicate cols (blank pen0))), (1, 8, [7, 8], fun vs => .box (blkOf (vs 8)) 79 #[lineV (vs 7), .bool false]), (2, 9, [9], fun vs => .lines (vs 9) (List.replicate (k + 1) ((List.replicate cols (blank pen0)), false))), (0, 9, [], fun vs => .none), (3, 12, [9], fun vs => .box p 37 #[.int .i64 ↑cols, vs 9])] [[], [], [], [], [3], [], [], [0], [1], [0, 1, 2], [], [], [3]] [.none, .none, .lines v (List.replicate k ((List.replicate cols (blank pen0)), false)), .box p 37 #[.int .i64 ↑cols, v]] (fun i u => match i with | 0 => u = (.pointer (some ⟨p, 0, none⟩) : Value) | 1 => u = (.pointer (some ⟨p, 0, none⟩) : Value) | 2 => u = (.pointer (some ⟨p, 0, none⟩) : Value) | 3 => u = (.pointer (some ⟨p, 1, none⟩) : Value) | 4 => u = (v : Value) | 5 => u = (.int .i64 ↑cols : Value) | 6 => u = (.agg (pv pen0) : Value) | 7 => ∃ x, u = .agg #[x, .bool false] | 8 => ∃ g, u = .slice (some ⟨g, 0, none⟩) 1 1 | 9 => ∃ A n c, u = .slice A n c | 10 => u = (.pointer (some ⟨p, 0, none⟩) : Value) | 11 => u = (.pointer (some ⟨p, 1, none⟩) : Value) | 12 => True | _ => True) (fun vs => [.none, .box (blkOf (vs 8)) 79 #[lineV (vs 7), .bool false], .lines (vs 9) (List.replicate (k + 1) ((List.replicate cols (blank pen0)), false)), .box p 37 #[.int .i64 ↑cols, vs 9]]) (by kernel_rfl) (fun vs => by rfl) S.out.pad.pad ?_ ?_
      · refine SSteps.cons (fun a w' vs σ hS hl hs hk => ?_) ?_
        · have e6 : a.tmps.getD 6 undef = (.pointer (some ⟨p, 0, none⟩) : Value) := (sk_old hk 6 (by kernel_rfl)).trans rfl
          have f6 := gd e6
          exact ro_pure (v := .pointer (some ⟨p, 0, none⟩)) (wanted_none rfl) (by simp [execOp, Act.eval, e6, f6, go_sem]) (sp_same (by kernel_rfl) hl hs hS (show (.pointer (some ⟨p, 0, none⟩) : Value) = _ from rfl)) trivial
        refine SSteps.cons (fun a w' vs σ hS hl hs hk => ?_) ?_
        · have e6 : a.tmps.getD 6 undef = (.pointer (some ⟨p, 0, none⟩) : Value) := (sk_old hk 6 (by kernel_rfl)).trans rfl
          have f6 := gd e6
          exact ro_pure (v := .pointer (some ⟨p, 0, none⟩)) (wanted_none rfl) (by simp [execOp, Act.eval, e6, f6, go_sem]) (sp_same (by kernel_rfl) hl hs hS (show (.pointer (some ⟨p, 0, none⟩) : Value) = _ from rfl)) trivial
        refine SSteps.cons (fun a w' vs σ hS hl hs hk => ?_) ?_
        · have e28 : a.tmps.getD 28 undef = (.pointer (some ⟨p, 0, none⟩) : Value) := (sk_val hk 1 (by kernel_rfl) rfl rfl).trans ((hk.1 1 (by kernel_rfl)).1)
          have f28 := gd e28
          exact ro_pure (v := .pointer (some ⟨p, 0, none⟩)) (wanted_none rfl) (by simp [execOp, Act.eval, e28, f28, go_sem]) (sp_same (by kernel_rfl) hl hs hS (show (.pointer (some ⟨p, 0, none⟩) : Value) = _ from rfl)) trivial
        refine SSteps.cons (fun a w' vs σ hS hl hs hk => ?_) ?_
        · have e29 : a.tmps.getD 29 undef = (.pointer (some ⟨p, 0, none⟩) : Value) := (sk_val hk 2 (by kernel_rfl) rfl rfl).trans ((hk.1 2 (by kernel_rfl)).1)
          have f29 := gd e29
          exact ro_pure (v := .pointer (some ⟨p, 1, none⟩)) (wanted_none rfl) (by simp [execOp, Act.eval, e29, f29, go_sem]) (sp_same (by kernel_rfl) hl hs hS (show (.pointer (some ⟨p, 1, none⟩) : Value) = _ from rfl)) trivial
        refine SSteps.cons (fun a w' vs σ hS hl hs hk => ?_) ?_
        · have e30 : a.tmps.getD 30 undef = (.pointer (some ⟨p, 1, none⟩) : Value) := (sk_val hk 3 (by kernel_rfl) rfl rfl).trans ((hk.1 3 (by kernel_rfl)).1)
          have f30 := gd e30
          have hx := (hS.box (sg (hs 3 (by decide)))).cell
          exact ro_pure (v := v) (wanted_none rfl) (by simp [execOp, Act.eval, e30, f30, go_sem, hx]) (sp_same (by kernel_rfl) hl hs hS (show (v : Value) = _ from rfl)) trivial
        refine SSteps.cons (fun a w' vs σ hS hl hs hk => ?_) ?_
        · have e1 : a.tmps.getD 1 undef = (.int .i64 ↑cols : Value) := (sk_old hk 1 (by kernel_rfl)).trans rfl
          have f1 := gd e1
          exact ro_pure (v := .int .i64 ↑cols) (wanted_none rfl) (by simp [execOp, Act.eval, e1, f1, go_sem]) (sp_same (by kernel_rfl) hl hs hS (show (.int .i64 ↑cols : Value) = _ from rfl)) trivial
        refine SSteps.cons (fun a w' vs σ hS hl hs hk => ?_) ?_
        · exact ro_pure (v := .agg (pv pen0)) (wanted_none rfl) (by simp [execOp, Act.eval, go_sem, pen0]) (sp_same (by kernel_rfl) hl hs hS (show (.agg (pv pen0) : Value) = _ from rfl)) trivial
        refine SSteps.cons (fun a w' vs σ hS hl hs hk => ?_) ?_
        · have e32 : a.tmps.getD 32 undef = (.int .i64 ↑cols : Value) := (sk_val hk 5 (by kernel_rfl) rfl rfl).trans ((hk.1 5 (by kernel_rfl)).1)
          have f32 := gd e32
          have e33 : a.tmps.getD 33 undef = (.agg (pv pen0) : Value) := (sk_val hk 6 (by kernel_rfl) rfl rfl).trans ((hk.1 6 (by kernel_rfl)).1)
          have f33 := gd e33
          have h0 : σ[0]? = some .none := hs 0 (by decide)
          exact ro_call (f := 67) (wanted_none rfl) rfl (by simp only [List.map_toArray, List.map_cons, List.map_nil, Act.eval, e32, e33] <;> rfl) (fun _ _ => by kernel_rfl) ((gridblanks_any cols (by omega) pen0 w0 w' _ hS).mono fun e w2 ⟨x, h1, h2⟩ => ⟨_, h1, sp_set 0 (.cells x (List.replicate cols (blank pen0))) (by kernel_rfl) (by simp) (by decide) hl hs (by rfl) (h2.place (sg h0)) ⟨x, rfl⟩, trivial⟩)
        refine SSteps.cons (fun a w' vs σ hS hl hs hk => ?_) ?_
        · have e34 : a.tmps.getD 34 undef = vs 7 := sk_val hk 7 (by kernel_rfl) rfl rfl
          have p34 : (fun u : Value => ∃ x, u = .agg #[x, .bool false]) (vs 7) := (hk.1 7 (by kernel_rfl)).1
          have f34 := gd e34
          obtain ⟨x, hx⟩ := p34
          have e9 := e34.trans hx
          have f9 := gd e9
          have h1 : σ[1]? = some .none := hs 1 (by decide)
          exact rs_run (wanted_none rfl) (exec_bsl rfl (by simp [Act.eval, e9, f9]) (run_bsl x false w')) (sp_set 1 (.box w'.heap.size 79 #[x, .bool false]) (by kernel_rfl) (by simp) (by decide) hl hs (by show Ob.box (blkOf (.slice (some ⟨w'.heap.size, 0, none⟩) 1 1)) 79 #[lineV (vs 7), .bool false] = _; rw [hx]; rfl) (hS.alloc1.place (sg h1)) ⟨_, rfl⟩)
        refine SSteps.cons (fun a w' vs σ hS hl hs hk => ?_) ?_
        · have e31 : a.tmps.getD 31 undef = (v : Value) := (sk_val hk 4 (by kernel_rfl) rfl rfl).trans ((hk.1 4 (by kernel_rfl)).1)
          have f31 := gd e31
          have e35 : a.tmps.getD 35 undef = vs 8 := sk_val hk 8 (by kernel_rfl) rfl rfl
          have p35 : (fun u : Value => ∃ g, u = .slice (some ⟨g, 0, none⟩) 1 1) (vs 8) := (hk.1 8 (by kernel_rfl)).1
          have f35 := gd e35
          have h2 : σ[2]? = some (.lines v (List.replicate k ((List.replicate cols (blank pen0)), false))) := hs 2 (by decide)
          have h0 : σ[0]? = some (.cells (lineV (vs 7)) (List.replicate cols (blank pen0))) := hs 0 (by decide)
          have h1 : σ[1]? = some (.box (blkOf (vs 8)) 79 #[lineV (vs 7), .bool false]) := hs 1 (by decide)
          obtain ⟨g8, hg8⟩ := p35
          rw [hg8, show blkOf (.slice (some ⟨g8, 0, none⟩) 1 1) = g8 from rfl] at h1
          obtain ⟨v9, w9, hr, hS2, A9, c9, hv9⟩ := run_appL hS (k := 2) (j := 0) (ad := ⟨g8, 0, none⟩) (c := 1) (s := false) (sg h2) (sg h0) (by decide) (by rw [(hS.box (sg h1)).cell]; rfl) (by rw [add_at, (hS.box (sg h1)).cell]; rfl) (by simp; omega) 35
          rw [← List.replicate_succ'] at hS2
          exact rs_run (wanted_none rfl) (exec_app rfl (by simp only [Act.eval]; exact e31) (by simp only [Act.eval]; exact e35.trans hg8) hr) (sp_set2 2 0 (.lines v9 (List.replicate (k + 1) ((List.replicate cols (blank pen0)), false))) .none (by decide) (by kernel_rfl) (by simp) (by simp) (by decide) (by decide) hl hs (by rfl) (by rfl) hS2 ⟨A9, _, c9, hv9⟩)
        refine SSteps.cons (fun a w' vs σ hS hl hs hk => ?_) ?_
        · have e27 : a.tmps.getD 27 undef = (.pointer (some ⟨p, 0, none⟩) : Value) := (sk_val hk 0 (by kernel_rfl) rfl rfl).trans ((hk.1 0 (by kernel_rfl)).1)
          have f27 := gd e27
          exact ro_pure (v := .pointer (some ⟨p, 0, none⟩)) (wanted_none rfl) (by simp [execOp, Act.eval, e27, f27, go_sem]) (sp_same (by kernel_rfl) hl hs hS (show (.pointer (some ⟨p, 0, none⟩) : Value) = _ from rfl)) trivial
        refine SSteps.cons (fun a w' vs σ hS hl hs hk => ?_) ?_
        · have e37 : a.tmps.getD 37 undef = (.pointer (some ⟨p, 0, none⟩) : Value) := (sk_val hk 10 (by kernel_rfl) rfl rfl).trans ((hk.1 10 (by kernel_rfl)).1)
          have f37 := gd e37
          exact ro_pure (v := .pointer (some ⟨p, 1, none⟩)) (wanted_none rfl) (by simp [execOp, Act.eval, e37, f37, go_sem]) (sp_same (by kernel_rfl) hl hs hS (show (.pointer (some ⟨p, 1, none⟩) : Value) = _ from rfl)) trivial
        refine SSteps.cons (fun a w' vs σ hS hl hs hk => ?_) ?_
        · have e38 : a.tmps.getD 38 undef = (.pointer (some ⟨p, 1, none⟩) : Value) := (sk_val hk 11 (by kernel_rfl) rfl rfl).trans ((hk.1 11 (by kernel_rfl)).1)
          have f38 := gd e38
          have e36 : a.tmps.getD 36 undef = vs 9 := sk_val hk 9 (by kernel_rfl) rfl rfl
          have p36 : (fun u : Value => ∃ A n c, u = .slice A n c) (vs 9) := (hk.1 9 (by kernel_rfl)).1
          have f36 := gd e36
          have h3 : σ[3]? = some (.box p 37 #[.int .i64 ↑cols, v]) := hs 3 (by decide)
          obtain ⟨hx, hf, hz⟩ := (hS.box (sg h3)).facts
          obtain ⟨A9, n9, c9, q9⟩ := p36
          exact rstep_store (w2 := w'.setCell ⟨p, 1, none⟩ (.slice A9 n9 c9)) (wanted_none rfl) rfl (by simp [execOp, Act.eval, e38, f38, e36, f36, q9, hx, hf, hz, go_sem]) (sp_set 3 (.box p 37 #[.int .i64 ↑cols, vs 9]) (by kernel_rfl) (by simp) (by decide) hl hs (by rfl) (by rw [q9]; exact hS.setBox 3 (sg h3)) trivial) trivial
        exact SSteps.nil
      · intro vs w' hS hv
        have q0 := (show vs 0 = (.pointer (some ⟨p, 0, none⟩) : Value) from hv 0 (by decide))
        have q1 := (show vs 1 = (.pointer (some ⟨p, 0, none⟩) : Value) from hv 1 (by decide))
        have q2 := (show vs 2 = (.pointer (some ⟨p, 0, none⟩) : Value) from hv 2 (by decide))
        have q3 := (show vs 3 = (.pointer (some ⟨p, 1, none⟩) : Value) from hv 3 (by decide))
        have q4 := (show vs 4 = (v : Value) from hv 4 (by decide))
        have q5 := (show vs 5 = (.int .i64 ↑cols : Value) from hv 5 (by decide))
        have q6 := (show vs 6 = (.agg (pv pen0) : Value) from hv 6 (by decide))
        have q10 := (show vs 10 = (.pointer (some ⟨p, 0, none⟩) : Value) from hv 10 (by decide))
        have q11 := (show vs 11 = (.pointer (some ⟨p, 1, none⟩) : Value) from hv 11 (by decide))
        have S2 := Lib.hid hS
        simp only [putL, Act.put, Nat.zero_add, Nat.reduceAdd, List.setIfInBounds_toArray, List.set_cons_succ, List.set_cons_zero, q0, q1, q2, q3, q4, q5, q6, q10, q11]
        clear hS hv q0 q1 q2 q3 q4 q5 q6 q10 q11
        go_wp2_with fail
        go_roundw
        case rel => exact ⟨k + 1, vs 9, by omega, by go_num, (S2.out.del 0).del 0⟩
        case measure => simp [intOf]; omega
    · obtain rfl : k = rows := by omega
      have SG := Lib.hid (S.out.closeGrid (k := 0) rfl)
      clear S S1
      go_wp2_with fail
      go_ret2
      exact ⟨p, rfl, SG.out⟩
set_option maxRecDepth 100000 in
set_option maxHeartbeats 4000000 in
theorem r14New_any (rows cols : Nat) (h2 : rows ≤ 1000) (h4 : cols ≤ 1000) (w0 w : World) (os : List Ob) (hS : Objs w0 w os) :
    Calls Tryd.prog 52 #[.int .i64 rows, .int .i64 cols] w fun e w' => ∃ p, e = .returned (.pointer (some ⟨p, 0, none⟩)) ∧ Objs w0 w' (.grid p 63 cols (List.replicate rows ((List.replicate cols (blank pen0)), false)) :: os) := by
  have S0 := Lib.hid hS
  clear hS
  go_enter Tryd.func52, Tryd.ntmps52
  go_wp2_with fail
  refine at_objsC S0.out.alloc1 (fun W S1 => ?_)
  generalize w.heap.size = p at S1 ⊢
  have S1 := Lib.hid S1
  clear S0
  go_loopw [6] (fun x wr => ∃ (k : Nat) (v : Value), k ≤ rows ∧ x = .int .i64 k ∧ Objs w0 wr (.lines v (List.replicate k ((List.replicate cols (blank pen0)), false)) :: .box p 63 #[.int .i64 ↑cols, v] :: os)) (fun x _ => rows - (intOf x).toNat)
  case atStart => exact ⟨0, _, Nat.zero_le _, rfl, S1.out.nilLines⟩
  case round =>
    obtain ⟨k, v, hk, rfl, hS⟩ := hrel
    have S := Lib.hid hS
    clear hS
    by_cases hlt : k < rows
    · go_upto_region 5 with (fail)
      refine wp_region_stage (w0 := w0) (os := os) (by kernel_rfl) (by kernel_rfl) (by kernel_rfl) [(0, 7, [7], fun vs => .cells (lineV (vs 7)) (List.replicate cols (blank pen0))), (1, 8, [7, 8], fun vs => .box (blkOf (vs 8)) 79 #[lineV (vs 7), .bool false]), (2, 9, [9], fun vs => .lines (vs 9) (List.replicate (k + 1) ((List.replicate cols (blank pen0)), false))), (0, 9, [], fun vs => .none), (3, 12, [9], fun vs => .box p 63 #[.int .i64 ↑cols, vs 9])] [[], [], [], [], [3], [], [], [0], [1], [0, 1, 2], [], [], [3]] [.none, .none, .lines v (List.replicate k ((List.replicate cols (blank pen0)), false)), .box p 63 #[.int .i64 ↑cols, v]] (fun i u => match i with | 0 => u = (.pointer (some ⟨p, 0, none⟩) : Value) | 1 => u = (.pointer (some ⟨p, 0, none⟩) : Value) | 2 => u = (.pointer (some ⟨p, 0, none⟩) : Value) | 3 => u = (.pointer (some ⟨p, 1, none⟩) : Value) | 4 => u = (v : Value) | 5 => u = (.int .i64 ↑cols : Value) | 6 => u = (.agg (pv pen0) : Value) | 7 => ∃ x, u = .agg #[x, .bool false] | 8 => ∃ g, u = .slice (some ⟨g, 0, none⟩) 1 1 | 9 => ∃ A n c, u = .slice A n c | 10 => u = (.pointer (some ⟨p, 0, none⟩) : Value) | 11 => u = (.pointer (some ⟨p, 1, none⟩) : Value) | 12 => True | _ => True) (fun vs => [.none, .box (blkOf (vs 8)) 79 #[lineV (vs 7), .bool false], .lines (vs 9) (List.replicate (k + 1) ((List.replicate cols (blank pen0)), false)), .box p 63 #[.int .i64 ↑cols, vs 9]]) (by kernel_rfl) (fun vs => by rfl) S.out.pad.pad ?_ ?_
      · refine SSteps.cons (fun a w' vs σ hS hl hs hk => ?_) ?_
        · have e5 : a.tmps.getD 5 undef = (.pointer (some ⟨p, 0, none⟩) : Value) := (sk_old hk 5 (by kernel_rfl)).trans rfl
          have f5 := gd e5
          exact ro_pure (v := .pointer (some ⟨p, 0, none⟩)) (wanted_none rfl) (by simp [execOp, Act.eval, e5, f5, go_sem]) (sp_same (by kernel_rfl) hl hs hS (show (.pointer (some ⟨p, 0, none⟩) : Value) = _ from rfl)) trivial
        refine SSteps.cons (fun a w' vs σ hS hl hs hk => ?_) ?_
        · have e5 : a.tmps.getD 5 undef = (.pointer (some ⟨p, 0, none⟩) : Value) := (sk_old hk 5 (by kernel_rfl)).trans rfl
          have f5 := gd e5
          exact ro_pure (v := .pointer (some ⟨p, 0, none⟩)) (wanted_none rfl) (by simp [execOp, Act.eval, e5, f5, go_sem]) (sp_same (by kernel_rfl) hl hs hS (show (.pointer (some ⟨p, 0, none⟩) : Value) = _ from rfl)) trivial
        refine SSteps.cons (fun a w' vs σ hS hl hs hk => ?_) ?_
        · have e16 : a.tmps.getD 16 undef = (.pointer (some ⟨p, 0, none⟩) : Value) := (sk_val hk 1 (by kernel_rfl) rfl rfl).trans ((hk.1 1 (by kernel_rfl)).1)
          have f16 := gd e16
          exact ro_pure (v := .pointer (some ⟨p, 0, none⟩)) (wanted_none rfl) (by simp [execOp, Act.eval, e16, f16, go_sem]) (sp_same (by kernel_rfl) hl hs hS (show (.pointer (some ⟨p, 0, none⟩) : Value) = _ from rfl)) trivial
        refine SSteps.cons (fun a w' vs σ hS hl hs hk => ?_) ?_
        · have e17 : a.tmps.getD 17 undef = (.pointer (some ⟨p, 0, none⟩) : Value) := (sk_val hk 2 (by kernel_rfl) rfl rfl).trans ((hk.1 2 (by kernel_rfl)).1)
          have f17 := gd e17
          exact ro_pure (v := .pointer (some ⟨p, 1, none⟩)) (wanted_none rfl) (by simp [execOp, Act.eval, e17, f17, go_sem]) (sp_same (by kernel_rfl) hl hs hS (show (.pointer (some ⟨p, 1, none⟩) : Value) = _ from rfl)) trivial
        refine SSteps.cons (fun a w' vs σ hS hl hs hk => ?_) ?_
        · have e18 : a.tmps.getD 18 undef = (.pointer (some ⟨p, 1, none⟩) : Value) := (sk_val hk 3 (by kernel_rfl) rfl rfl).trans ((hk.1 3 (by kernel_rfl)).1)
          have f18 := gd e18
          have hx := (hS.box (sg (hs 3 (by decide)))).cell
          exact ro_pure (v := v) (wanted_none rfl) (by simp [execOp, Act.eval, e18, f18, go_sem, hx]) (sp_same (by kernel_rfl) hl hs hS (show (v : Value) = _ from rfl)) trivial
        refine SSteps.cons (fun a w' vs σ hS hl hs hk => ?_) ?_
        · have e1 : a.tmps.getD 1 undef = (.int .i64 ↑cols : Value) := (sk_old hk 1 (by kernel_rfl)).trans rfl
          have f1 := gd e1
          exact ro_pure (v := .int .i64 ↑cols) (wanted_none rfl) (by simp [execOp, Act.eval, e1, f1, go_sem]) (sp_same (by kernel_rfl) hl hs hS (show (.int .i64 ↑cols : Value) = _ from rfl)) trivial
        refine SSteps.cons (fun a w' vs σ hS hl hs hk => ?_) ?_
        · exact ro_pure (v := .agg (pv pen0)) (wanted_none rfl) (by simp [execOp, Act.eval, go_sem, pen0]) (sp_same (by kernel_rfl) hl hs hS (show (.agg (pv pen0) : Value) = _ from rfl)) trivial
        refine SSteps.cons (fun a w' vs σ hS hl hs hk => ?_) ?_
        · have e20 : a.tmps.getD 20 undef = (.int .i64 ↑cols : Value) := (sk_val hk 5 (by kernel_rfl) rfl rfl).trans ((hk.1 5 (by kernel_rfl)).1)
          have f20 := gd e20
          have e21 : a.tmps.getD 21 undef = (.agg (pv pen0) : Value) := (sk_val hk 6 (by kernel_rfl) rfl rfl).trans ((hk.1 6 (by kernel_rfl)).1)
          have f21 := gd e21
          have h0 : σ[0]? = some .none := hs 0 (by decide)
          exact ro_call (f := 78) (wanted_none rfl) rfl (by simp only [List.map_toArray, List.map_cons, List.map_nil, Act.eval, e20, e21] <;> rfl) (fun _ _ => by kernel_rfl) ((r14Blanks_any cols (by omega) pen0 w0 w' _ hS).mono fun e w2 ⟨x, h1, h2⟩ => ⟨_, h1, sp_set 0 (.cells x (List.replicate cols (blank pen0))) (by kernel_rfl) (by simp) (by decide) hl hs (by rfl) (h2.place (sg h0)) ⟨x, rfl⟩, trivial⟩)
        refine SSteps.cons (fun a w' vs σ hS hl hs hk => ?_) ?_
        · have e22 : a.tmps.getD 22 undef = vs 7 := sk_val hk 7 (by kernel_rfl) rfl rfl
          have p22 : (fun u : Value => ∃ x, u = .agg #[x, .bool false]) (vs 7) := (hk.1 7 (by kernel_rfl)).1
          have f22 := gd e22
          obtain ⟨x, hx⟩ := p22
          have e9 := e22.trans hx
          have f9 := gd e9
          have h1 : σ[1]? = some .none := hs 1 (by decide)
          exact rs_run (wanted_none rfl) (exec_bsl rfl (by simp [Act.eval, e9, f9]) (run_bsl x false w')) (sp_set 1 (.box w'.heap.size 79 #[x, .bool false]) (by kernel_rfl) (by simp) (by decide) hl hs (by show Ob.box (blkOf (.slice (some ⟨w'.heap.size, 0, none⟩) 1 1)) 79 #[lineV (vs 7), .bool false] = _; rw [hx]; rfl) (hS.alloc1.place (sg h1)) ⟨_, rfl⟩)
        refine SSteps.cons (fun a w' vs σ hS hl hs hk => ?_) ?_
        · have e19 : a.tmps.getD 19 undef = (v : Value) := (sk_val hk 4 (by kernel_rfl) rfl rfl).trans ((hk.1 4 (by kernel_rfl)).1)
          have f19 := gd e19
          have e23 : a.tmps.getD 23 undef = vs 8 := sk_val hk 8 (by kernel_rfl) rfl rfl
          have p23 : (fun u : Value => ∃ g, u = .slice (some ⟨g, 0, none⟩) 1 1) (vs 8) := (hk.1 8 (by kernel_rfl)).1
          have f23 := gd e23
          have h2 : σ[2]? = some (.lines v (List.replicate k ((List.replicate cols (blank pen0)), false))) := hs 2 (by decide)
          have h0 : σ[0]? = some (.cells (lineV (vs 7)) (List.replicate cols (blank pen0))) := hs 0 (by decide)
          have h1 : σ[1]? = some (.box (blkOf (vs 8)) 79 #[lineV (vs 7), .bool false]) := hs 1 (by decide)
          obtain ⟨g8, hg8⟩ := p23
          rw [hg8, show blkOf (.slice (some ⟨g8, 0, none⟩) 1 1) = g8 from rfl] at h1
          obtain ⟨v9, w9, hr, hS2, A9, c9, hv9⟩ := run_appL hS (k := 2) (j := 0) (ad := ⟨g8, 0, none⟩) (c := 1) (s := false) (sg h2) (sg h0) (by decide) (by rw [(hS.box (sg h1)).cell]; rfl) (by rw [add_at, (hS.box (sg h1)).cell]; rfl) (by simp; omega) 35
          rw [← List.replicate_succ'] at hS2
          exact rs_run (wanted_none rfl) (exec_app rfl (by simp only [Act.eval]; exact e19) (by simp only [Act.eval]; exact e23.trans hg8) hr) (sp_set2 2 0 (.lines v9 (List.replicate (k + 1) ((List.replicate cols (blank pen0)), false))) .none (by decide) (by kernel_rfl) (by simp) (by simp) (by decide) (by decide) hl hs (by rfl) (by rfl) hS2 ⟨A9, _, c9, hv9⟩)
        refine SSteps.cons (fun a w' vs σ hS hl hs hk => ?_) ?_
        · have e15 : a.tmps.getD 15 undef = (.pointer (some ⟨p, 0, none⟩) : Value) := (sk_val hk 0 (by kernel_rfl) rfl rfl).trans ((hk.1 0 (by kernel_rfl)).1)
          have f15 := gd e15
          exact ro_pure (v := .pointer (some ⟨p, 0, none⟩)) (wanted_none rfl) (by simp [execOp, Act.eval, e15, f15, go_sem]) (sp_same (by kernel_rfl) hl hs hS (show (.pointer (some ⟨p, 0, none⟩) : Value) = _ from rfl)) trivial
        refine SSteps.cons (fun a w' vs σ hS hl hs hk => ?_) ?_
        · have e25 : a.tmps.getD 25 undef = (.pointer (some ⟨p, 0, none⟩) : Value) := (sk_val hk 10 (by kernel_rfl) rfl rfl).trans ((hk.1 10 (by kernel_rfl)).1)
          have f25 := gd e25
          exact ro_pure (v := .pointer (some ⟨p, 1, none⟩)) (wanted_none rfl) (by simp [execOp, Act.eval, e25, f25, go_sem]) (sp_same (by kernel_rfl) hl hs hS (show (.pointer (some ⟨p, 1, none⟩) : Value) = _ from rfl)) trivial
        refine SSteps.cons (fun a w' vs σ hS hl hs hk => ?_) ?_
        · have e26 : a.tmps.getD 26 undef = (.pointer (some ⟨p, 1, none⟩) : Value) := (sk_val hk 11 (by kernel_rfl) rfl rfl).trans ((hk.1 11 (by kernel_rfl)).1)
          have f26 := gd e26
          have e24 : a.tmps.getD 24 undef = vs 9 := sk_val hk 9 (by kernel_rfl) rfl rfl
          have p24 : (fun u : Value => ∃ A n c, u = .slice A n c) (vs 9) := (hk.1 9 (by kernel_rfl)).1
          have f24 := gd e24
          have h3 : σ[3]? = some (.box p 63 #[.int .i64 ↑cols, v]) := hs 3 (by decide)
          obtain ⟨hx, hf, hz⟩ := (hS.box (sg h3)).facts
          obtain ⟨A9, n9, c9, q9⟩ := p24
          exact rstep_store (w2 := w'.setCell ⟨p, 1, none⟩ (.slice A9 n9 c9)) (wanted_none rfl) rfl (by simp [execOp, Act.eval, e26, f26, e24, f24, q9, hx, hf, hz, go_sem]) (sp_set 3 (.box p 63 #[.int .i64 ↑cols, vs 9]) (by kernel_rfl) (by simp) (by decide) hl hs (by rfl) (by rw [q9]; exact hS.setBox 3 (sg h3)) trivial) trivial
        exact SSteps.nil
      · intro vs w' hS hv
        have q0 := (show vs 0 = (.pointer (some ⟨p, 0, none⟩) : Value) from hv 0 (by decide))
        have q1 := (show vs 1 = (.pointer (some ⟨p, 0, none⟩) : Value) from hv 1 (by decide))
        have q2 := (show vs 2 = (.pointer (some ⟨p, 0, none⟩) : Value) from hv 2 (by decide))
        have q3 := (show vs 3 = (.pointer (some ⟨p, 1, none⟩) : Value) from hv 3 (by decide))
        have q4 := (show vs 4 = (v : Value) from hv 4 (by decide))
        have q5 := (show vs 5 = (.int .i64 ↑cols : Value) from hv 5 (by decide))
        have q6 := (show vs 6 = (.agg (pv pen0) : Value) from hv 6 (by decide))
        have q10 := (show vs 10 = (.pointer (some ⟨p, 0, none⟩) : Value) from hv 10 (by decide))
        have q11 := (show vs 11 = (.pointer (some ⟨p, 1, none⟩) : Value) from hv 11 (by decide))
        have S2 := Lib.hid hS
        simp only [putL, Act.put, Nat.zero_add, Nat.reduceAdd, List.setIfInBounds_toArray, List.set_cons_succ, List.set_cons_zero, q0, q1, q2, q3, q4, q5, q6, q10, q11]
        clear hS hv q0 q1 q2 q3 q4 q5 q6 q10 q11
        go_wp2_with fail
        go_roundw
        case rel => exact ⟨k + 1, vs 9, by omega, by go_num, (S2.out.del 0).del 0⟩
        case measure => simp [intOf]; omega
    · obtain rfl : k = rows := by omega
      have SG := Lib.hid (S.out.closeGrid (k := 0) rfl)
      clear S S1
      go_wp2_with fail
      go_ret
      exact ⟨p, rfl, SG.out⟩
end Go.Proofs.YtghahanpmcpacaaDoor

/-
  What a call makes, seen from the world in which it began: put beside the objects that were there.
-/
set_option linter.unusedSimpArgs false
set_option linter.unusedVariables false
namespace Go.Proofs.YtghahanpmcpacaaDoor
open Go.RowKit

theorem Objs.nest {w0 w w' : World} {os : List Ob} {o : Ob} (h : Objs w0 w os) (h2 : Objs w w' [o]) : Objs w0 w' (o :: os) := by
  obtain ⟨hb, F, q1, q2, q3, q4⟩ := h2
  exact h.cons hb (q1 0 o rfl) (q2 0)
end Go.Proofs.YtghahanpmcpacaaDoor

/-
  A slice of lines taken apart: the lines' heads (each one's slice of cells, and whether it is soft), and the pile of their cells.
-/
set_option linter.unusedSimpArgs false
set_option linter.unusedVariables false
namespace Go.Proofs.YtghahanpmcpacaaDoor
open Go.RowKit

/-- A row: the slice of its cells, and its line. -/
abbrev Tr := Value × Ln
def hdP (T : List Tr) : List (Value × Bool) := T.map fun x => (x.1, x.2.2)
def piP (T : List Tr) : List (Value × List Cell) := T.map fun x => (x.1, x.2.1)
def lnP (T : List Tr) : List Ln := T.map fun x => x.2
theorem flat2_cons (x : Value × Bool) (hp : List (Value × Bool)) : flat2 (x :: hp) = x.1 :: .bool x.2 :: flat2 hp := rfl
theorem flat2_append (a b : List (Value × Bool)) : flat2 (a ++ b) = flat2 a ++ flat2 b := List.flatMap_append
theorem flat2_length (hp : List (Value × Bool)) : (flat2 hp).length = hp.length * 2 := by
  induction hp with
  | nil => rfl
  | cons x hp ih => rw [flat2_cons]; simp [ih]; omega
theorem flat2_take (hp : List (Value × Bool)) (i : Nat) : (flat2 hp).take (i * 2) = flat2 (hp.take i) := by
  induction hp generalizing i with
  | nil => simp [flat2]
  | cons x hp ih => cases i with
    | zero => simp [flat2]
    | succ i => rw [flat2_cons, show (i + 1) * 2 = i * 2 + 1 + 1 by omega]; simp [ih, flat2_cons]
theorem flat2_drop (hp : List (Value × Bool)) (i : Nat) : (flat2 hp).drop (i * 2) = flat2 (hp.drop i) := by
  induction hp generalizing i with
  | nil => simp [flat2]
  | cons x hp ih => cases i with
    | zero => simp
    | succ i => rw [flat2_cons, show (i + 1) * 2 = i * 2 + 1 + 1 by omega]; simp [ih]
theorem flat2_set (hp : List (Value × Bool)) (i : Nat) (b : Value) (s : Bool) : flat2 (hp.set i (b, s)) = ((flat2 hp).set (i * 2) b).set (i * 2 + 1) (.bool s) := by
  induction hp generalizing i with
  | nil => simp [flat2]
  | cons x hp ih => cases i with
    | zero => rw [List.set_cons_zero, flat2_cons, flat2_cons]; simp
    | succ i => rw [List.set_cons_succ, flat2_cons, flat2_cons, ih, show (i + 1) * 2 = i * 2 + 1 + 1 by omega]; simp
theorem flat2_at0 {hp : List (Value × Bool)} {i : Nat} {x : Value × Bool} (h : hp[i]? = some x) : (flat2 hp)[i * 2]? = some x.1 := by
  induction hp generalizing i with
  | nil => simp at h
  | cons y hp ih => cases i with
    | zero => simp at h; subst h; rfl
    | succ i => rw [flat2_cons, show (i + 1) * 2 = i * 2 + 1 + 1 by omega]; simp at h ⊢; exact ih h
theorem flat2_at1 {hp : List (Value × Bool)} {i : Nat} {x : Value × Bool} (h : hp[i]? = some x) : (flat2 hp)[i * 2 + 1]? = some (.bool x.2) := by
  induction hp generalizing i with
  | nil => simp at h
  | cons y hp ih => cases i with
    | zero => simp at h; subst h; rfl
    | succ i => rw [flat2_cons, show (i + 1) * 2 + 1 = i * 2 + 1 + 1 + 1 by omega]; simp at h ⊢; exact ih h
theorem flat2_one {hp : List (Value × Bool)} (h : ∀ x ∈ hp, x.1.oneCell' = true) : ∀ v ∈ flat2 hp, v.oneCell' = true := by
  intro v hv
  obtain ⟨x, hx, hm⟩ := List.mem_flatMap.1 hv
  simp at hm
  rcases hm with rfl | rfl
  · exact h x hx
  · rfl
theorem hdrs_tr (T : List Tr) : hdrs (T.map (·.1)) (lnP T) = flat2 (hdP T) := by
  induction T with
  | nil => rfl
  | cons x T ih =>
    show hdrs (x.1 :: T.map (·.1)) (x.2 :: lnP T) = flat2 ((x.1, x.2.2) :: hdP T)
    rw [hdrs_cons, flat2_cons, ih]
theorem tr_of {bs : List Value} {L : List Ln} (h : bs.length = L.length) : ∃ T : List Tr, T.map (·.1) = bs ∧ lnP T = L :=
  ⟨bs.zip L, by rw [← List.unzip_fst, List.unzip_zip h], by show (bs.zip L).map (·.2) = L; rw [← List.unzip_snd, List.unzip_zip h]⟩
section
variable {w0 w : World} {os : List Ob}
/-- The same blocks, said in other words. -/
theorem Objs.recast (h : Objs w0 w os) {k : Nat} {o o' : Ob} (hk : os[k]? = some o) (hc : ∀ F : Nat → Prop, o.at w F → o'.at w F) : Objs w0 w (os.set k o') :=
  h.upd hk (fun F hF => ⟨F, Chg.refl _ _, hc F hF, fun b hb => .inl hb⟩)
/-- A slice of lines: its heads, and the pile of its cells. -/
theorem Objs.toHeads (h : Objs w0 w os) {k : Nat} {v : Value} {L : List Ln} (hk : os[k]? = some (.lines v L)) : ∃ T : List Tr, lnP T = L ∧ (∀ x ∈ hdP T, x.1.oneCell' = true) ∧ Objs w0 w (.pile (piP T) :: os.set k (.heads v (hdP T))) := by
  obtain ⟨F, bs, h1, h2⟩ := h.get hk
  obtain ⟨T, rfl, rfl⟩ := tr_of h1.len
  have hat : ∀ (i : Nat) (x : Tr), T[i]? = some x → (T.map (·.1))[i]? = some x.1 ∧ (lnP T)[i]? = some x.2 := fun i x hx => by simp [lnP, hx]
  have hmem : ∀ x ∈ piP T, ∃ (i : Nat) (y : Tr), T[i]? = some y ∧ x = (y.1, y.2.1) := fun x hx => by
    obtain ⟨y, hy, rfl⟩ := List.mem_map.1 hx
    obtain ⟨i, hi⟩ := List.mem_iff_getElem?.1 hy
    exact ⟨i, y, hi, rfl⟩
  have hTl : (hdP T).length = (lnP T).length := by simp [hdP, lnP]
  refine ⟨T, rfl, fun x hx => ?_, h.split (w' := w) hk (fun F hF => ?_)⟩
  · obtain ⟨y, hy, rfl⟩ := List.mem_map.1 hx
    obtain ⟨i, hi⟩ := List.mem_iff_getElem?.1 hy
    exact lv_one (h1.rows i _ _ (by simp) (hat i y hi).1 (hat i y hi).2)
  · obtain ⟨bs2, g1, g2⟩ := hF
    obtain rfl := h1.same g1
    refine ⟨fun b => v.ownBlock = some b, fun b => ∃ x ∈ piP T, x.1.ownBlock = some b, Chg.refl _ _, ⟨by rw [hTl, ← hdrs_tr]; exact g1.own, fun _ => Iff.rfl⟩, ⟨fun x hx => ?_, ?_, fun _ => Iff.rfl⟩, ?_, fun b hb => .inl ((g2 b).2 (.inl hb)), ?_⟩
    · obtain ⟨i, y, hi, rfl⟩ := hmem x hx
      exact g1.rows i _ _ (by simp) (hat i y hi).1 (hat i y hi).2
    · rw [List.pairwise_iff_getElem]
      intro i j hi hj hij g e1 e2
      have hti : i < T.length := by simpa [piP] using hi
      have htj : j < T.length := by simpa [piP] using hj
      have := g1.dist i j T[i].1 T[j].1 g (by simp [hti]) (by simp [htj]) (by simpa [piP] using e1) (by simpa [piP] using e2)
      omega
    · rintro b hb ⟨x, hx, e⟩
      obtain ⟨i, y, hi, rfl⟩ := hmem x hx
      exact own_apart (by decide) g1.own (g1.rows i _ _ (by simp) (hat i y hi).1 (hat i y hi).2) hb e
    · rintro b ⟨x, hx, e⟩
      obtain ⟨i, y, hi, rfl⟩ := hmem x hx
      exact .inl ((g2 b).2 (.inr ⟨i, y.1, by simp, (hat i y hi).1, e⟩))
/-- Put together again. -/
theorem Objs.ofHeads {k : Nat} {v : Value} {T : List Tr} (h : Objs w0 w (.pile (piP T) :: os)) (hk : os[k]? = some (.heads v (hdP T))) : Objs w0 w (os.set k (.lines v (lnP T))) := by
  have := h.join (w' := w) (k := k + 1) (j := 0) (o := .heads v (hdP T)) (oj := .pile (piP T)) (o' := .lines v (lnP T)) (oj' := .none) (by simpa using hk) rfl (by omega) (fun F G hF hG hd => by
    obtain ⟨q1, q2, q3⟩ := hG
    obtain ⟨p1, p2⟩ := hF
    have hTl : (hdP T).length = (lnP T).length := by simp [hdP, lnP]
    have hat : ∀ (i : Nat) (b : Value), (T.map (·.1))[i]? = some b → ∃ y, T[i]? = some y ∧ y.1 = b := fun i b hb => by
      rw [List.getElem?_map] at hb
      cases hT : T[i]? with
      | none => simp [hT] at hb
      | some y => rw [hT] at hb; exact ⟨y, rfl, by simpa using hb⟩
    refine ⟨fun b => F b ∨ G b, fun _ => False, Chg.refl _ _, ⟨T.map (·.1), ⟨by simp [lnP], by rw [hdrs_tr, ← hTl]; exact p1, fun i b l _ hb hl => ?_, fun i j b c g hb hc e1 e2 => ?_⟩, fun b => ?_⟩, fun _ hf => hf, fun _ _ hf => hf, fun b hb => hb.elim .inl (fun x => .inr (.inl x)), fun _ hf => hf.elim⟩
    · obtain ⟨y, hy, rfl⟩ := hat i b hb
      have : l = y.2 := by simpa [lnP, hy] using hl.symm
      subst this
      exact q1 (y.1, y.2.1) (List.mem_map.2 ⟨y, List.mem_of_getElem? hy, rfl⟩)
    · obtain ⟨y, hy, rfl⟩ := hat i b hb
      obtain ⟨z, hz, rfl⟩ := hat j c hc
      have hi : i < T.length := (List.getElem?_eq_some_iff.1 hy).1
      have hj : j < T.length := (List.getElem?_eq_some_iff.1 hz).1
      have ey : T[i] = y := (List.getElem?_eq_some_iff.1 hy).2
      have ez : T[j] = z := (List.getElem?_eq_some_iff.1 hz).2
      rw [List.pairwise_iff_getElem] at q2
      rcases Nat.lt_trichotomy i j with hlt | rfl | hlt
      · exact (q2 i j (by simpa [piP] using hi) (by simpa [piP] using hj) hlt g (by simpa [piP, ey] using e1) (by simpa [piP, ez] using e2)).elim
      · rfl
      · exact (q2 j i (by simpa [piP] using hj) (by simpa [piP] using hi) hlt g (by simpa [piP, ez] using e2) (by simpa [piP, ey] using e1)).elim
    · show F b ∨ G b ↔ _
      rw [p2, q3]
      constructor
      · rintro (e | ⟨x, hx, e⟩)
        · exact .inl e
        · obtain ⟨y, hy, rfl⟩ := List.mem_map.1 hx
          obtain ⟨i, hi⟩ := List.mem_iff_getElem?.1 hy
          exact .inr ⟨i, y.1, by simp, by simp [hi], e⟩
      · rintro (e | ⟨i, x, _, hx, e⟩)
        · exact .inl e
        · obtain ⟨y, hy, rfl⟩ := hat i x hx
          exact .inr ⟨(y.1, y.2.1), List.mem_map.2 ⟨y, List.mem_of_getElem? hy, rfl⟩, e⟩)
  simpa using this.tail
/-- A pile in another order. -/
theorem Objs.pilePerm {ps qs : List (Value × List Cell)} {k : Nat} (h : Objs w0 w os) (hk : os[k]? = some (.pile ps)) (hp : ps.Perm qs) : Objs w0 w (os.set k (.pile qs)) :=
  h.recast hk (fun F hF => ⟨fun x hx => hF.1 x (hp.mem_iff.2 hx), (hp.pairwise_iff (fun {x y} h g e1 e2 => h g e2 e1)).1 hF.2.1, fun b => (hF.2.2 b).trans ⟨fun ⟨x, hx, e⟩ => ⟨x, hp.mem_iff.1 hx, e⟩, fun ⟨x, hx, e⟩ => ⟨x, hp.mem_iff.2 hx, e⟩⟩⟩)
/-- Two piles are one. -/
theorem Objs.pileJoin {ps qs : List (Value × List Cell)} (h : Objs w0 w (.pile ps :: .pile qs :: os)) : Objs w0 w (.pile (ps ++ qs) :: os) := by
  have := h.join (w' := w) (k := 0) (j := 1) (o := .pile ps) (oj := .pile qs) (o' := .pile (ps ++ qs)) (oj' := .none) rfl rfl (by omega) (fun F G hF hG hd => ⟨fun b => F b ∨ G b, fun _ => False, Chg.refl _ _,
    ⟨fun x hx => (List.mem_append.1 hx).elim (hF.1 x) (hG.1 x), List.pairwise_append.2 ⟨hF.2.1, hG.2.1, fun x hx y hy g e1 e2 => hd g ((hF.2.2 g).2 ⟨x, hx, e1⟩) ((hG.2.2 g).2 ⟨y, hy, e2⟩)⟩, fun b => by
      show F b ∨ G b ↔ _
      rw [hF.2.2, hG.2.2]
      constructor
      · rintro (⟨x, hx, e⟩ | ⟨x, hx, e⟩)
        · exact ⟨x, List.mem_append.2 (.inl hx), e⟩
        · exact ⟨x, List.mem_append.2 (.inr hx), e⟩
      · rintro ⟨x, hx, e⟩
        rcases List.mem_append.1 hx with hx | hx
        · exact .inl ⟨x, hx, e⟩
        · exact .inr ⟨x, hx, e⟩⟩, fun _ hf => hf, fun _ _ hf => hf, fun b hb => hb.elim .inl (fun x => .inr (.inl x)), fun _ hf => hf.elim⟩)
  exact this.del 1
theorem Objs.pileSplit {ps qs : List (Value × List Cell)} (h : Objs w0 w (.pile (ps ++ qs) :: os)) : Objs w0 w (.pile ps :: .pile qs :: os) :=
  h.split (w' := w) (k := 0) (o := .pile (ps ++ qs)) (o' := .pile qs) (o2 := .pile ps) rfl (fun F hF => by
    obtain ⟨h1, h2, h3⟩ := hF
    obtain ⟨p1, p2, p3⟩ := List.pairwise_append.1 h2
    exact ⟨fun b => ∃ x ∈ qs, x.1.ownBlock = some b, fun b => ∃ x ∈ ps, x.1.ownBlock = some b, Chg.refl _ _, ⟨fun x hx => h1 x (List.mem_append.2 (.inr hx)), p2, fun _ => Iff.rfl⟩, ⟨fun x hx => h1 x (List.mem_append.2 (.inl hx)), p1, fun _ => Iff.rfl⟩,
      fun b ⟨y, hy, e2⟩ ⟨x, hx, e1⟩ => p3 x hx y hy b e1 e2, fun b ⟨x, hx, e⟩ => .inl ((h3 b).2 ⟨x, List.mem_append.2 (.inr hx), e⟩), fun b ⟨x, hx, e⟩ => .inl ((h3 b).2 ⟨x, List.mem_append.2 (.inl hx), e⟩)⟩)
theorem Objs.pileOne {v : Value} {cs : List Cell} {k : Nat} (h : Objs w0 w os) (hk : os[k]? = some (.cells v cs)) : Objs w0 w (os.set k (.pile [(v, cs)])) :=
  h.recast hk (fun F hF => ⟨fun x hx => by rw [List.mem_singleton.1 hx]; exact hF.1, List.pairwise_singleton _ _, fun b => by rw [hF.2]; simp⟩)
/-- What heads hold. -/
theorem Objs.headsOwn (h : Objs w0 w os) {k : Nat} {v : Value} {hp : List (Value × Bool)} (hk : os[k]? = some (.heads v hp)) : w.ownsRow 0 79 2 v hp.length (flat2 hp) := by
  obtain ⟨F, hF⟩ := h.get hk; exact hF.1
theorem Objs.headsForm (h : Objs w0 w os) {k : Nat} {v : Value} {hp : List (Value × Bool)} (hk : os[k]? = some (.heads v hp)) : ∃ A c, v = .slice A hp.length c ∧ hp.length ≤ c ∧ c ≤ maxLen ∧ (A = none → c = 0) ∧ (0 < hp.length → ∃ g, A = some ⟨g, 0, none⟩ ∧ g < w.heap.size ∧ (∀ i x, hp[i]? = some x → w.cell? ⟨g, i * 2, none⟩ = some x.1 ∧ w.cell? ⟨g, i * 2 + 1, none⟩ = some (.bool x.2)) ∧ ∀ j, w.frozen? ⟨g, j, none⟩ = false) := by
  obtain ⟨A, c, rfl, h1, h2, h3, h4⟩ := own_form (h.headsOwn hk)
  refine ⟨A, c, rfl, h1, h2, h3, fun hn => ?_⟩
  obtain ⟨g, rfl, q1, q2, q3⟩ := h4 hn
  refine ⟨g, rfl, q1, fun i x hx => ?_, q3⟩
  have hi : i < hp.length := (List.getElem?_eq_some_iff.1 hx).1
  exact ⟨by rw [q2 _ (by omega)]; exact flat2_at0 hx, by rw [q2 _ (by omega)]; exact flat2_at1 hx⟩
/-- A store into heads. -/
theorem Objs.headsUpd {w' : World} {k : Nat} {v : Value} {hp hp' : List (Value × Bool)} (hS : Objs w0 w os) (hk : os[k]? = some (.heads v hp)) (ho : w'.ownsRow 0 79 2 v hp'.length (flat2 hp')) (hg : w.grownBy w' v.ownBlock) : Objs w0 w' (os.set k (.heads v hp')) :=
  hS.upd hk (fun F hF => ⟨F, Chg.of_grown hg F (fun b hb => (hF.2 b).2 hb), ⟨ho, hF.2⟩, fun b hb => .inl hb⟩)
/-- A line stored into heads; whether it is soft. -/
theorem Objs.storeHead {k i g n c : Nat} {hp : List (Value × Bool)} {b : Value} {s : Bool} (hS : Objs w0 w os) (hk : os[k]? = some (.heads (.slice (some ⟨g, 0, none⟩) n c) hp)) :
    Objs w0 ((w.setCell ⟨g, i * 2, none⟩ b).setCell ⟨g, i * 2 + 1, none⟩ (.bool s)) (os.set k (.heads (.slice (some ⟨g, 0, none⟩) n c) (hp.set i (b, s)))) := by
  have ho := hS.headsOwn hk
  obtain rfl : n = hp.length := by obtain ⟨A', c', e, -⟩ := own_form ho; simp only [Value.slice.injEq] at e; exact e.2.1
  obtain ⟨h1, h2⟩ := World.ownsRow.stored ho (i * 2) b
  obtain ⟨h3, h4⟩ := World.ownsRow.stored h1 (i * 2 + 1) (.bool s)
  refine hS.headsUpd hk ?_ (h2.trans h4)
  rw [List.length_set, flat2_set]
  exact h3
theorem Objs.softHead {k i g n c : Nat} {hp : List (Value × Bool)} {x : Value × Bool} {s : Bool} (hS : Objs w0 w os) (hk : os[k]? = some (.heads (.slice (some ⟨g, 0, none⟩) n c) hp)) (hx : hp[i]? = some x) :
    Objs w0 (w.setCell ⟨g, i * 2 + 1, none⟩ (.bool s)) (os.set k (.heads (.slice (some ⟨g, 0, none⟩) n c) (hp.set i (x.1, s)))) := by
  have ho := hS.headsOwn hk
  obtain rfl : n = hp.length := by obtain ⟨A', c', e, -⟩ := own_form ho; simp only [Value.slice.injEq] at e; exact e.2.1
  obtain ⟨h1, h2⟩ := World.ownsRow.stored ho (i * 2 + 1) (.bool s)
  refine hS.headsUpd hk ?_ h2
  rw [List.length_set, flat2_set, set_self (l := flat2 hp) (k := i * 2) (flat2_at0 hx)]
  exact h1
/-- copy within heads. -/
theorem run_copyH {k g n cap : Nat} {hp : List (Value × Bool)} (hS : Objs w0 w os) (hk : os[k]? = some (.heads (.slice (some ⟨g, 0, none⟩) n cap) hp)) (h1 : ∀ x ∈ hp, x.1.oneCell' = true) (i a m : Nat) (dp sp : Option Addr) (dLen dCap sLen sCap : Nat) (hm : Nat.min sLen dLen = m) (hi : i + m ≤ hp.length) (ha : a + m ≤ hp.length)
    (hpos : 0 < m → dp = some ⟨g, i * 2, none⟩ ∧ sp = some ⟨g, a * 2, none⟩) (ty : TypeId) :
    ∃ W, (Builtin.copy_ #[35, 35] ty #[.slice dp dLen dCap, .slice sp sLen sCap]).run Tryd.prog w = .ok (goInt m) W ∧ Objs w0 W (os.set k (.heads (.slice (some ⟨g, 0, none⟩) n cap) (hp.take i ++ ((hp.drop a).take m ++ hp.drop (i + m))))) := by
  have ho := hS.headsOwn hk
  have hlen : ((hp.drop a).take m).length = m := by simp; omega
  obtain rfl : n = hp.length := by obtain ⟨A', c', e, -⟩ := own_form ho; simp only [Value.slice.injEq] at e; exact e.2.1
  obtain ⟨W, q1, q2, q3⟩ := own_copy (P := Tryd.prog) ho 35 35 ty Tryd.underlying35 line_size dp sp dLen dCap sLen sCap (i * 2) (flat2 ((hp.drop a).take m)) (by rw [flat2_length, hlen, hm]) (by rw [flat2_length, flat2_length, hlen]; omega) (fun hp0 => by
    rw [hm] at hp0
    obtain ⟨e1, e2⟩ := hpos hp0
    refine ⟨e1, _, e2, fun j v hv => ?_⟩
    rw [add_at]
    refine own_cell ho _ _ ?_
    have : (flat2 ((hp.drop a).take m))[j]? = (((flat2 hp).drop (a * 2)).take (m * 2))[j]? := by rw [flat2_drop, flat2_take]
    rw [this] at hv
    simp only [List.getElem?_take, List.getElem?_drop] at hv
    split at hv
    · exact hv
    · cases hv) (flat2_one (fun x hx => h1 x (List.mem_of_mem_drop (List.mem_of_mem_take hx))))
  rw [hm] at q1
  refine ⟨W, q1, hS.headsUpd hk ?_ q3⟩
  have e : flat2 (hp.take i ++ ((hp.drop a).take m ++ hp.drop (i + m))) = over (flat2 hp) (i * 2) (flat2 ((hp.drop a).take m)) := by
    unfold over
    rw [flat2_append, flat2_append, ← flat2_take, ← flat2_drop hp (i + m), flat2_length, hlen, Nat.add_mul]
  rw [e]
  have hl2 : (hp.take i ++ ((hp.drop a).take m ++ hp.drop (i + m))).length = hp.length := by simp; omega
  rw [hl2]
  exact q2
end
end Go.Proofs.YtghahanpmcpacaaDoor

/-
  slices.Clone of lines: of their heads. Appending heads.
-/
set_option linter.unusedSimpArgs false
set_option linter.unusedVariables false
namespace Go.Proofs.YtghahanpmcpacaaDoor
open Go.RowKit

theorem eql_nilL (w : World) (a : Option Addr) (n c : Nat) : (binOp .eql 35 (.slice a n c) (.slice none 0 0)).run Tryd.prog w = .ok (.bool a.isNone) w := Lib.run_eql_slice_nil w 35 79 a n c 0 0 Tryd.underlying35
section
variable {w0 w : World} {os : List Ob} {v : Value} {hp : List (Value × Bool)}
/-- append(v, s...) onto heads: s reads as further heads. -/
theorem run_appH (hS : Objs w0 w os) {k : Nat} (hk : os[k]? = some (.heads v hp)) {ad : Addr} {m c : Nat} {ds : List (Value × Bool)} (hm : m = ds.length) (hmc : m ≤ c) (hr : ∀ (i : Nat) (x : Value), (flat2 ds)[i]? = some x → w.cell? (ad.add i) = some x) (h1 : ∀ x ∈ ds, x.1.oneCell' = true) (hlen : hp.length + ds.length ≤ 1000000) (ty : TypeId) :
    ∃ v' w', (Builtin.append_ #[35, 35] ty #[v, .slice (some ad) m c]).run Tryd.prog w = .ok v' w' ∧ Objs w0 w' (os.set k (.heads v' (hp ++ ds))) ∧ ∃ A' c', v' = .slice A' (hp.length + ds.length) c' := by
  subst hm
  obtain ⟨i, hi, hz0, hz1, hz2⟩ := info_parts line_info
  have ho := hS.headsOwn hk
  obtain ⟨v', w', hrun, g1, g2, g3, g4⟩ := run_append_own_at (P := Tryd.prog) (w := w) 0 35 ty 79 i _ 2 32 Tryd.underlying35 hi hz0 hz1 hz2 (by simp [Value.cells]) (by omega) v hp.length (flat2 hp) ho ad ds.length c (flat2 ds) (flat2_length ds) hr (flat2_one h1) (by simp only [maxLen]; omega) (by omega) (Nat.zero_le _)
  have hrow : w'.ownsRow 0 79 2 v' (hp ++ ds).length (flat2 (hp ++ ds)) := by rw [flat2_append, List.length_append]; exact g1
  obtain ⟨A', c', e, _⟩ := own_form hrow
  refine ⟨v', w', hrun, hS.upd hk (fun F hF => ?_), A', c', by simpa using e⟩
  refine ⟨fun b => v'.ownBlock = some b, Chg.of_grown g2 F (fun b hb => (hF.2 b).2 hb), ⟨hrow, fun _ => Iff.rfl⟩, fun b hb => ?_⟩
  rcases g4 with g4 | g4
  · exact .inl ((hF.2 b).2 (by rw [← g4]; exact hb))
  · rw [g4] at hb; cases hb; exact .inr (Nat.le_refl _)
/-- An empty slice of lines of the call's own. -/
theorem Objs.emptyHeads (h : Objs w0 w os) : Objs w0 (w.alloc (.cells #[] 79)) (.heads (.slice (some ⟨w.heap.size, 0, none⟩) 0 0) [] :: os) :=
  h.cons (Below.alloc (Below.refl _ _) (Nat.le_refl _) _) (G := fun b => b = w.heap.size) ⟨own_mk (by simp [flat2]) (Nat.zero_le _) (Nat.le_refl _) (by simp [maxLen]) (heap_alloc_new w _) (by simp) (by simp [flat2]), fun b => by simp [Value.ownBlock]; exact eq_comm⟩ (fun b hb => by omega)
/-- What a part of heads reads as. -/
theorem Objs.headsSub (h : Objs w0 w os) {k g n c a m : Nat} (hk : os[k]? = some (.heads (.slice (some ⟨g, 0, none⟩) n c) hp)) (ham : a + m ≤ hp.length) (i : Nat) (x : Value) (hx : (flat2 ((hp.drop a).take m))[i]? = some x) : w.cell? ((⟨g, a * 2, none⟩ : Addr).add i) = some x := by
  have ho := h.headsOwn hk
  obtain rfl : n = hp.length := by obtain ⟨A', c', e, -⟩ := own_form ho; simp only [Value.slice.injEq] at e; exact e.2.1
  rw [add_at]
  refine own_cell ho _ _ ?_
  rw [← flat2_take, ← flat2_drop, List.getElem?_take, List.getElem?_drop] at hx
  split at hx
  · exact hx
  · cases hx
set_option maxRecDepth 100000 in
set_option maxHeartbeats 1000000 in
/-- slices.Clone of a part of heads. -/
theorem clone_front {g n c a m cc : Nat} (hS : Objs w0 w (.heads (.slice (some ⟨g, 0, none⟩) n c) hp :: os)) (h1 : ∀ x ∈ hp, x.1.oneCell' = true) (ham : a + m ≤ hp.length) (hmc : m ≤ cc) (hlen : hp.length ≤ 1000000) :
    Calls Tryd.prog 66 #[.slice (some ⟨g, a * 2, none⟩) m cc] w fun e w' => ∃ A' c', e = .returned (.slice A' m c') ∧ Objs w0 w' (.heads (.slice A' m c') ((hp.drop a).take m) :: .heads (.slice (some ⟨g, 0, none⟩) n c) hp :: os) := by
  have hml : ((hp.drop a).take m).length = m := by simp; omega
  have hS2 := hS.emptyHeads
  obtain ⟨v', w', hr, hS3, A', c', hv⟩ := run_appH hS2 (k := 0) rfl (ad := ⟨g, a * 2, none⟩) (m := m) (c := cc) (ds := (hp.drop a).take m) hml.symm hmc (fun i x hx => hS2.headsSub (k := 1) rfl ham i x hx) (fun x hx => h1 x (List.mem_of_mem_drop (List.mem_of_mem_take hx))) (by rw [hml]; simp; omega) 35
  rw [hml] at hv
  simp only [List.length_nil, Nat.zero_add] at hv
  subst hv
  have S := Lib.hid (show Objs w0 w' (.heads (.slice A' m c') ((hp.drop a).take m) :: .heads (.slice (some ⟨g, 0, none⟩) n c) hp :: os) from hS3)
  have HR := Lib.hid hr
  clear hS hS2 hS3 h1 hml hr
  have hq := eql_nilL
  go_enter Tryd.func66, Tryd.ntmps66
  go_wp2_with (at_builtin; refine wpList_app _ _ (wanted_none rfl) rfl rfl rfl HR.out ?_)
  go_ret
  exact ⟨A', c', rfl, S.out⟩
end
end Go.Proofs.YtghahanpmcpacaaDoor

/-
  Put: a cell is put into a grid.
-/
set_option linter.unusedSimpArgs false
set_option linter.unusedVariables false
namespace Go.Proofs.YtghahanpmcpacaaDoor
open Go.RowKit

/-- A cell put into a row. -/
def putC (j : Nat) (x : Cell) (cs : List Cell) : List Cell :=
  let l := (brk (j + x.width.toNat) (brk j cs)).set j x
  if x.width = 2 then l.set (j + 1) (spacer x.pen) else l
theorem putC_length (j : Nat) (x : Cell) (cs : List Cell) : (putC j x cs).length = cs.length := by
  unfold putC
  simp only
  split <;> simp [brk_length]
theorem ok_w12 {x : Cell} (h : x.ok = true) (h0 : ¬ x.width = 0) : x.width = 1 ∨ x.width = 2 := by
  rcases ok_width h with h1 | h1 | h1
  · exact absurd h1 h0
  · exact .inl h1
  · exact .inr h1
section
variable {w0 w : World} {os : List Ob} {p cols : Nat} {L : List Ln}
/-- A grid with one row out, and back. -/
theorem Objs.openAt {t : TypeId} {cols : Int} {i : Nat} {l : Ln} (h : Objs w0 w (.grid p t cols L :: os)) (hl : L[i]? = some l) : ∃ v b, Objs w0 w (.cells b l.1 :: .linesx v L i b :: .box p t #[.int .i64 cols, v] :: os) := by
  obtain ⟨v, h1⟩ := h.openGrid (k := 0) rfl
  obtain ⟨b, h2⟩ := h1.openRow (k := 0) rfl hl
  exact ⟨v, b, h2⟩
theorem Objs.closeAt {t : TypeId} {cols : Int} {v b : Value} {i : Nat} {l : Ln} {cs : List Cell} (h : Objs w0 w (.cells b cs :: .linesx v L i b :: .box p t #[.int .i64 cols, v] :: os)) (hl : L[i]? = some l) : Objs w0 w (.grid p t cols (L.set i (cs, l.2)) :: os) := by
  have h1 := h.closeRow (k := 0) (s := l.2) rfl (by rw [hl]; rfl)
  exact (h1 : Objs w0 w (.lines v _ :: .box p t _ :: os)).closeGrid (k := 0) rfl
/-- The two ahead change places. -/
theorem Objs.swap {a b : Ob} (h : Objs w0 w (a :: b :: os)) : Objs w0 w (b :: a :: os) := by
  have h1 := h.lift (k := 1) (o := b) rfl
  exact h1.del 2
set_option maxRecDepth 100000 in
set_option maxHeartbeats 4000000 in
theorem Put_yes {i j : Nat} {l : Ln} (x : Cell) (hT : Tabs w0) (hS : Objs w0 w (.grid p 37 cols L :: os)) (hc : 0 < cols) (hcm : cols ≤ 1000) (hl : L[i]? = some l) (hrow : l.1.length = cols) (hv : x.ok = true) (hw : ¬ x.width = 0) (hfit : (j : Int) + x.width ≤ cols) :
    Calls Tryd.prog 41 #[.pointer (some ⟨p, 0, none⟩), .int .i64 i, .int .i64 j, .agg (cv x)] w fun e w' => e = .returned (.int .i64 0) ∧ Objs w0 w' (.grid p 37 cols (L.set i (putC j x l.1, l.2)) :: os) := by
  have S := Lib.hid hS
  have hi : i < L.length := (List.getElem?_eq_some_iff.1 hl).1
  have hxw : 1 ≤ x.width ∧ x.width ≤ 2 := by rcases ok_w12 hv hw with h | h <;> omega
  have hj : j < cols := by omega
  have HL := Lib.hid hl
  have HT := Lib.hid hT
  have HE := Lib.hid (show atE i j cols L = 0 by unfold atE; rw [if_pos ⟨⟨by omega, by omega⟩, by omega, by omega⟩])
  have HV := Lib.hid hv
  have hw0 := beq_no hw
  have hsum : IntKind.i64.wrap ((j : Int) + x.width) = j + x.width := IntWalk.i64_in _ (by omega)
  have hov : ¬ ((cols : Int) < j + x.width) := by omega
  have HROW := Lib.hid hrow
  have hlr : l.1.length ≤ 1000 := by omega
  have hjr : j < l.1.length := by omega
  clear hS hT hl hv hw hrow
  go_enter Tryd.func41, Tryd.ntmps41
  go_wp2_with fail
  refine (at_any _ _ S.out.alloc1 (k := 1) rfl hc).mono ?_
  rw [HE.out]
  rintro e w1 ⟨rfl, hS⟩
  have S1 := Lib.hid hS
  clear hS S
  generalize w.heap.size = b7 at S1 ⊢
  go_upto_region 4 with (fail)
  refine wp_region_stage (w0 := w0) (os := os) (by kernel_rfl) (by kernel_rfl) (by kernel_rfl) [] [[0], [], [], [], [], [0], [], [], [], [], [], [0], [], [], [], [], [1], [], []] [.box b7 82 (cv x), .grid p 37 cols L] (fun i u => match i with | 0 => u = (.agg (cv x) : Value) | 1 => u = (.bool true : Value) | 2 => u = (.bool false : Value) | 3 => u = (.bool false : Value) | 4 => u = (.pointer (some ⟨b7, 4, none⟩) : Value) | 5 => u = (.int .i64 x.width : Value) | 6 => u = (.bool false : Value) | 7 => u = (.bool false : Value) | 8 => u = (.bool false : Value) | 9 => u = (.int .i64 ↑j : Value) | 10 => u = (.pointer (some ⟨b7, 4, none⟩) : Value) | 11 => u = (.int .i64 x.width : Value) | 12 => u = (.int .i64 (↑j + x.width) : Value) | 13 => u = (.pointer (some ⟨p, 0, none⟩) : Value) | 14 => u = (.pointer (some ⟨p, 0, none⟩) : Value) | 15 => u = (.pointer (some ⟨p, 0, none⟩) : Value) | 16 => u = (.int .i64 ↑cols : Value) | 17 => u = (.bool false : Value) | 18 => u = (.bool false : Value) | _ => True) (fun vs => [.box b7 82 (cv x), .grid p 37 cols L]) (by kernel_rfl) (fun vs => by rfl) S1.out ?_ ?_
  · refine SSteps.cons (fun a w' vs σ hS hl hs hk => ?_) ?_
    · have e7 : a.tmps.getD 7 undef = (.pointer (some ⟨b7, 0, none⟩) : Value) := (sk_old hk 7 (by kernel_rfl)).trans rfl
      have f7 := gd e7
      have hx := (hS.box (sg (hs 0 (by decide)))).box.2.2.2.1
      exact ro_pure (v := .agg (cv x)) (wanted_none rfl) (by simp [execOp, Act.eval, e7, f7, go_sem, hx]) (sp_same (by kernel_rfl) hl hs hS (show (.agg (cv x) : Value) = _ from rfl)) trivial
    refine SSteps.cons (fun a w' vs σ hS hl hs hk => ?_) ?_
    · have e18 : a.tmps.getD 18 undef = (.agg (cv x) : Value) := (sk_val hk 0 (by kernel_rfl) rfl rfl).trans ((hk.1 0 (by kernel_rfl)).1)
      have f18 := gd e18
      exact ro_call (f := 53) (wanted_none rfl) rfl (by simp only [List.map_toArray, List.map_cons, List.map_nil, Act.eval, e18] <;> rfl) (fun _ _ => by kernel_rfl) ((valid_yes HV.out w' (hS.tabs HT.out)).mono fun e w2 ⟨h1, h2⟩ => ⟨_, h1, sp_same (by kernel_rfl) hl hs (hS.bel h2) rfl, trivial⟩)
    refine SSteps.cons (fun a w' vs σ hS hl hs hk => ?_) ?_
    · have e19 : a.tmps.getD 19 undef = (.bool true : Value) := (sk_val hk 1 (by kernel_rfl) rfl rfl).trans ((hk.1 1 (by kernel_rfl)).1)
      have f19 := gd e19
      exact ro_pure (v := .bool false) (wanted_none rfl) (by simp [execOp, Act.eval, e19, f19, go_sem]) (sp_same (by kernel_rfl) hl hs hS (show (.bool false : Value) = _ from rfl)) trivial
    refine SSteps.cons (fun a w' vs σ hS hl hs hk => ?_) ?_
    · have e20 : a.tmps.getD 20 undef = (.bool false : Value) := (sk_val hk 2 (by kernel_rfl) rfl rfl).trans ((hk.1 2 (by kernel_rfl)).1)
      have f20 := gd e20
      exact ro_pure (v := .bool false) (wanted_none rfl) (by simp [execOp, Act.eval, e20, f20, go_sem]) (sp_same (by kernel_rfl) hl hs hS (show (.bool false : Value) = _ from rfl)) trivial
    refine SSteps.cons (fun a w' vs σ hS hl hs hk => ?_) ?_
    · have e7 : a.tmps.getD 7 undef = (.pointer (some ⟨b7, 0, none⟩) : Value) := (sk_old hk 7 (by kernel_rfl)).trans rfl
      have f7 := gd e7
      exact ro_pure (v := .pointer (some ⟨b7, 4, none⟩)) (wanted_yes rfl rfl rfl (show _ = _ from (sk_val hk 3 (by kernel_rfl) rfl rfl).trans ((hk.1 3 (by kernel_rfl)).1))) (by simp [execOp, Act.eval, e7, f7, go_sem]) (sp_same (by kernel_rfl) hl hs hS (show (.pointer (some ⟨b7, 4, none⟩) : Value) = _ from rfl)) trivial
    refine SSteps.cons (fun a w' vs σ hS hl hs hk => ?_) ?_
    · have e22 : a.tmps.getD 22 undef = (.pointer (some ⟨b7, 4, none⟩) : Value) := (sk_val hk 4 (by kernel_rfl) rfl rfl).trans ((hk.1 4 (by kernel_rfl)).1)
      have f22 := gd e22
      have hx := (hS.box (sg (hs 0 (by decide)))).box.1
      exact ro_pure (v := .int .i64 x.width) (wanted_yes rfl rfl rfl (show _ = _ from (sk_val hk 3 (by kernel_rfl) rfl rfl).trans ((hk.1 3 (by kernel_rfl)).1))) (by simp [execOp, Act.eval, e22, f22, go_sem, hx]) (sp_same (by kernel_rfl) hl hs hS (show (.int .i64 x.width : Value) = _ from rfl)) trivial
    refine SSteps.cons (fun a w' vs σ hS hl hs hk => ?_) ?_
    · have e23 : a.tmps.getD 23 undef = (.int .i64 x.width : Value) := (sk_val hk 5 (by kernel_rfl) rfl rfl).trans ((hk.1 5 (by kernel_rfl)).1)
      have f23 := gd e23
      exact ro_pure (v := .bool false) (wanted_yes rfl rfl rfl (show _ = _ from (sk_val hk 3 (by kernel_rfl) rfl rfl).trans ((hk.1 3 (by kernel_rfl)).1))) (by simp [execOp, Act.eval, e23, f23, go_sem, hw0]) (sp_same (by kernel_rfl) hl hs hS (show (.bool false : Value) = _ from rfl)) trivial
    refine SSteps.cons (fun a w' vs σ hS hl hs hk => ?_) ?_
    · have e21 : a.tmps.getD 21 undef = (.bool false : Value) := (sk_val hk 3 (by kernel_rfl) rfl rfl).trans ((hk.1 3 (by kernel_rfl)).1)
      have f21 := gd e21
      have e24 : a.tmps.getD 24 undef = (.bool false : Value) := (sk_val hk 6 (by kernel_rfl) rfl rfl).trans ((hk.1 6 (by kernel_rfl)).1)
      have f24 := gd e24
      exact ro_pure (v := .bool false) (wanted_none rfl) (by simp [execOp, Act.eval, e21, f21, e24, f24, go_sem]) (sp_same (by kernel_rfl) hl hs hS (show (.bool false : Value) = _ from rfl)) trivial
    refine SSteps.cons (fun a w' vs σ hS hl hs hk => ?_) ?_
    · have e25 : a.tmps.getD 25 undef = (.bool false : Value) := (sk_val hk 7 (by kernel_rfl) rfl rfl).trans ((hk.1 7 (by kernel_rfl)).1)
      have f25 := gd e25
      exact ro_pure (v := .bool false) (wanted_none rfl) (by simp [execOp, Act.eval, e25, f25, go_sem]) (sp_same (by kernel_rfl) hl hs hS (show (.bool false : Value) = _ from rfl)) trivial
    refine SSteps.cons (fun a w' vs σ hS hl hs hk => ?_) ?_
    · have e2 : a.tmps.getD 2 undef = (.int .i64 ↑j : Value) := (sk_old hk 2 (by kernel_rfl)).trans rfl
      have f2 := gd e2
      exact ro_pure (v := .int .i64 ↑j) (wanted_yes rfl rfl rfl (show _ = _ from (sk_val hk 8 (by kernel_rfl) rfl rfl).trans ((hk.1 8 (by kernel_rfl)).1))) (by simp [execOp, Act.eval, e2, f2, go_sem]) (sp_same (by kernel_rfl) hl hs hS (show (.int .i64 ↑j : Value) = _ from rfl)) trivial
    refine SSteps.cons (fun a w' vs σ hS hl hs hk => ?_) ?_
    · have e7 : a.tmps.getD 7 undef = (.pointer (some ⟨b7, 0, none⟩) : Value) := (sk_old hk 7 (by kernel_rfl)).trans rfl
      have f7 := gd e7
      exact ro_pure (v := .pointer (some ⟨b7, 4, none⟩)) (wanted_yes rfl rfl rfl (show _ = _ from (sk_val hk 8 (by kernel_rfl) rfl rfl).trans ((hk.1 8 (by kernel_rfl)).1))) (by simp [execOp, Act.eval, e7, f7, go_sem]) (sp_same (by kernel_rfl) hl hs hS (show (.pointer (some ⟨b7, 4, none⟩) : Value) = _ from rfl)) trivial
    refine SSteps.cons (fun a w' vs σ hS hl hs hk => ?_) ?_
    · have e28 : a.tmps.getD 28 undef = (.pointer (some ⟨b7, 4, none⟩) : Value) := (sk_val hk 10 (by kernel_rfl) rfl rfl).trans ((hk.1 10 (by kernel_rfl)).1)
      have f28 := gd e28
      have hx := (hS.box (sg (hs 0 (by decide)))).box.1
      exact ro_pure (v := .int .i64 x.width) (wanted_yes rfl rfl rfl (show _ = _ from (sk_val hk 8 (by kernel_rfl) rfl rfl).trans ((hk.1 8 (by kernel_rfl)).1))) (by simp [execOp, Act.eval, e28, f28, go_sem, hx]) (sp_same (by kernel_rfl) hl hs hS (show (.int .i64 x.width : Value) = _ from rfl)) trivial
    refine SSteps.cons (fun a w' vs σ hS hl hs hk => ?_) ?_
    · have e27 : a.tmps.getD 27 undef = (.int .i64 ↑j : Value) := (sk_val hk 9 (by kernel_rfl) rfl rfl).trans ((hk.1 9 (by kernel_rfl)).1)
      have f27 := gd e27
      have e29 : a.tmps.getD 29 undef = (.int .i64 x.width : Value) := (sk_val hk 11 (by kernel_rfl) rfl rfl).trans ((hk.1 11 (by kernel_rfl)).1)
      have f29 := gd e29
      exact ro_pure (v := .int .i64 (↑j + x.width)) (wanted_yes rfl rfl rfl (show _ = _ from (sk_val hk 8 (by kernel_rfl) rfl rfl).trans ((hk.1 8 (by kernel_rfl)).1))) (by simp [execOp, Act.eval, e27, f27, e29, f29, go_sem, hsum]) (sp_same (by kernel_rfl) hl hs hS (show (.int .i64 (↑j + x.width) : Value) = _ from rfl)) trivial
    refine SSteps.cons (fun a w' vs σ hS hl hs hk => ?_) ?_
    · have e0 : a.tmps.getD 0 undef = (.pointer (some ⟨p, 0, none⟩) : Value) := (sk_old hk 0 (by kernel_rfl)).trans rfl
      have f0 := gd e0
      exact ro_pure (v := .pointer (some ⟨p, 0, none⟩)) (wanted_yes rfl rfl rfl (show _ = _ from (sk_val hk 8 (by kernel_rfl) rfl rfl).trans ((hk.1 8 (by kernel_rfl)).1))) (by simp [execOp, Act.eval, e0, f0, go_sem]) (sp_same (by kernel_rfl) hl hs hS (show (.pointer (some ⟨p, 0, none⟩) : Value) = _ from rfl)) trivial
    refine SSteps.cons (fun a w' vs σ hS hl hs hk => ?_) ?_
    · have e31 : a.tmps.getD 31 undef = (.pointer (some ⟨p, 0, none⟩) : Value) := (sk_val hk 13 (by kernel_rfl) rfl rfl).trans ((hk.1 13 (by kernel_rfl)).1)
      have f31 := gd e31
      exact ro_pure (v := .pointer (some ⟨p, 0, none⟩)) (wanted_yes rfl rfl rfl (show _ = _ from (sk_val hk 8 (by kernel_rfl) rfl rfl).trans ((hk.1 8 (by kernel_rfl)).1))) (by simp [execOp, Act.eval, e31, f31, go_sem]) (sp_same (by kernel_rfl) hl hs hS (show (.pointer (some ⟨p, 0, none⟩) : Value) = _ from rfl)) trivial
    refine SSteps.cons (fun a w' vs σ hS hl hs hk => ?_) ?_
    · have e32 : a.tmps.getD 32 undef = (.pointer (some ⟨p, 0, none⟩) : Value) := (sk_val hk 14 (by kernel_rfl) rfl rfl).trans ((hk.1 14 (by kernel_rfl)).1)
      have f32 := gd e32
      exact ro_pure (v := .pointer (some ⟨p, 0, none⟩)) (wanted_yes rfl rfl rfl (show _ = _ from (sk_val hk 8 (by kernel_rfl) rfl rfl).trans ((hk.1 8 (by kernel_rfl)).1))) (by simp [execOp, Act.eval, e32, f32, go_sem]) (sp_same (by kernel_rfl) hl hs hS (show (.pointer (some ⟨p, 0, none⟩) : Value) = _ from rfl)) trivial
    refine SSteps.cons (fun a w' vs σ hS hl hs hk => ?_) ?_
    · have e33 : a.tmps.getD 33 undef = (.pointer (some ⟨p, 0, none⟩) : Value) := (sk_val hk 15 (by kernel_rfl) rfl rfl).trans ((hk.1 15 (by kernel_rfl)).1)
      have f33 := gd e33
      obtain ⟨A1, c1, hB1, -, -⟩ := hS.gridRd (sg (hs 1 (by decide)))
      have hx := hB1.cell
      exact ro_pure (v := .int .i64 ↑cols) (wanted_yes rfl rfl rfl (show _ = _ from (sk_val hk 8 (by kernel_rfl) rfl rfl).trans ((hk.1 8 (by kernel_rfl)).1))) (by simp [execOp, Act.eval, e33, f33, go_sem, hx]) (sp_same (by kernel_rfl) hl hs hS (show (.int .i64 ↑cols : Value) = _ from rfl)) trivial
    refine SSteps.cons (fun a w' vs σ hS hl hs hk => ?_) ?_
    · have e30 : a.tmps.getD 30 undef = (.int .i64 (↑j + x.width) : Value) := (sk_val hk 12 (by kernel_rfl) rfl rfl).trans ((hk.1 12 (by kernel_rfl)).1)
      have f30 := gd e30
      have e34 : a.tmps.getD 34 undef = (.int .i64 ↑cols : Value) := (sk_val hk 16 (by kernel_rfl) rfl rfl).trans ((hk.1 16 (by kernel_rfl)).1)
      have f34 := gd e34
      exact ro_pure (v := .bool false) (wanted_yes rfl rfl rfl (show _ = _ from (sk_val hk 8 (by kernel_rfl) rfl rfl).trans ((hk.1 8 (by kernel_rfl)).1))) (by simp [execOp, Act.eval, e30, f30, e34, f34, go_sem, hov]) (sp_same (by kernel_rfl) hl hs hS (show (.bool false : Value) = _ from rfl)) trivial
    refine SSteps.cons (fun a w' vs σ hS hl hs hk => ?_) ?_
    · have e26 : a.tmps.getD 26 undef = (.bool false : Value) := (sk_val hk 8 (by kernel_rfl) rfl rfl).trans ((hk.1 8 (by kernel_rfl)).1)
      have f26 := gd e26
      have e35 : a.tmps.getD 35 undef = (.bool false : Value) := (sk_val hk 17 (by kernel_rfl) rfl rfl).trans ((hk.1 17 (by kernel_rfl)).1)
      have f35 := gd e35
      exact ro_pure (v := .bool false) (wanted_none rfl) (by simp [execOp, Act.eval, e26, f26, e35, f35, go_sem]) (sp_same (by kernel_rfl) hl hs hS (show (.bool false : Value) = _ from rfl)) trivial
    exact SSteps.nil
  · intro vs w' hS hv
    have q0 := (show vs 0 = (.agg (cv x) : Value) from hv 0 (by decide))
    have q1 := (show vs 1 = (.bool true : Value) from hv 1 (by decide))
    have q2 := (show vs 2 = (.bool false : Value) from hv 2 (by decide))
    have q3 := (show vs 3 = (.bool false : Value) from hv 3 (by decide))
    have q4 := (show vs 4 = (.pointer (some ⟨b7, 4, none⟩) : Value) from hv 4 (by decide))
    have q5 := (show vs 5 = (.int .i64 x.width : Value) from hv 5 (by decide))
    have q6 := (show vs 6 = (.bool false : Value) from hv 6 (by decide))
    have q7 := (show vs 7 = (.bool false : Value) from hv 7 (by decide))
    have q8 := (show vs 8 = (.bool false : Value) from hv 8 (by decide))
    have q9 := (show vs 9 = (.int .i64 ↑j : Value) from hv 9 (by decide))
    have q10 := (show vs 10 = (.pointer (some ⟨b7, 4, none⟩) : Value) from hv 10 (by decide))
    have q11 := (show vs 11 = (.int .i64 x.width : Value) from hv 11 (by decide))
    have q12 := (show vs 12 = (.int .i64 (↑j + x.width) : Value) from hv 12 (by decide))
    have q13 := (show vs 13 = (.pointer (some ⟨p, 0, none⟩) : Value) from hv 13 (by decide))
    have q14 := (show vs 14 = (.pointer (some ⟨p, 0, none⟩) : Value) from hv 14 (by decide))
    have q15 := (show vs 15 = (.pointer (some ⟨p, 0, none⟩) : Value) from hv 15 (by decide))
    have q16 := (show vs 16 = (.int .i64 ↑cols : Value) from hv 16 (by decide))
    have q17 := (show vs 17 = (.bool false : Value) from hv 17 (by decide))
    have q18 := (show vs 18 = (.bool false : Value) from hv 18 (by decide))
    have S2 := Lib.hid hS
    simp only [putL, Act.put, Nat.zero_add, Nat.reduceAdd, List.setIfInBounds_toArray, List.set_cons_succ, List.set_cons_zero, q0, q1, q2, q3, q4, q5, q6, q7, q8, q9, q10, q11, q12, q13, q14, q15, q16, q17, q18]
    clear hS hv q0 q1 q2 q3 q4 q5 q6 q7 q8 q9 q10 q11 q12 q13 q14 q15 q16 q17 q18
    clear hsum hw0 hov
    obtain ⟨v, b, hS3⟩ := S2.out.swap.openAt HL.out
    obtain ⟨A, c, rfl, -⟩ := hS3.cellsRd (k := 0) rfl
    obtain ⟨g, rfl, -, -, -, -⟩ := (hS3.own (k := 0) rfl).head (by omega)
    obtain ⟨gr, cr, rfl, h1, h2, h3, h4, h5, h6, h7⟩ := hS3.linesxRd (k := 1) rfl
    obtain ⟨hx2, hf2, hz2⟩ := (hS3.box (k := 2) rfl).facts
    have hlen2 : L.length ≤ 9223372036854775807 := by unfold maxLen at h2; omega
    have S3 := Lib.hid hS3
    clear hS3 h1 h2 h6
    go_wp2_with fail
    refine (split_at S3.out rfl rfl (by omega) (by omega)).mono ?_
    rintro e w4 ⟨rfl, hS4⟩
    have S4 := Lib.hid hS4
    obtain ⟨hx7, hf7, hz7, hc7, hp7⟩ := (hS4.box (k := 3) rfl).box
    clear hS4 hx2 hf2 hz2 h4 h5 h7
    go_wp2_with fail
    refine (split_at (c := j + x.width.toNat) S4.out (by rw [brk_length]) (by omega) (by rw [brk_length]; omega) (by omega)).mono ?_
    rintro e w5 ⟨rfl, hS5⟩
    obtain ⟨W, hst, ho, hg⟩ := (hS5.own (k := 0) rfl).putAt (k := j) (by rw [brk_length, brk_length]; omega) x
    have hS6 := hS5.cellsUpd (k := 0) rfl ho hg
    clear hx7 hf7 hz7 hc7 hp7
    obtain ⟨hx5, hf5, hz5, hc5, hp5⟩ := (hS5.box (k := 3) rfl).box
    obtain ⟨hx7, hf7, hz7, hc7, hp7⟩ := (hS6.box (k := 3) rfl).box
    have S6 := Lib.hid hS6
    clear hS5 hS6 ho hg
    by_cases hw2 : x.width = 2
    · have hw2' := beq_yes hw2
      have HP := Lib.hid (show putC j x l.1 = (((brk (j + x.width.toNat) (brk j l.1)).set j x).set (j + 1) (spacer x.pen)) from if_pos hw2)
      have HW2 := Lib.hid hw2
      clear hw2
      have hj2 : j + 1 < l.1.length := by have := HW2.out; have := HROW.out; omega
      go_wp2_with fail
      refine (pure_call (cellSpacer_any _ _) S6.out).mono ?_
      rintro e w7 ⟨rfl, hS7⟩
      obtain ⟨W2, hst2, ho2, hg2⟩ := (hS7.own (k := 0) rfl).putAt (k := j + 1) (by rw [List.length_set, brk_length, brk_length]; have := HW2.out; have := HROW.out; omega) (spacer x.pen)
      have S8 := Lib.hid (hS7.cellsUpd (k := 0) rfl ho2 hg2)
      clear ho2 hg2
      clear hS7
      have HF := S8.out.closeAt HL.out
      rw [← HP.out] at HF
      go_wp2_with fail
      go_ret
      exact ⟨rfl, HF.drop2⟩
    · have hw2' := beq_no hw2
      have HP := Lib.hid (show putC j x l.1 = ((brk (j + x.width.toNat) (brk j l.1)).set j x) by unfold putC; rw [if_neg hw2])
      clear hw2
      have HF := S6.out.closeAt HL.out
      rw [← HP.out] at HF
      go_wp2_with fail
      go_ret
      exact ⟨rfl, HF.drop2⟩
set_option maxRecDepth 100000 in
set_option maxHeartbeats 4000000 in
theorem r14Put_any {i j : Nat} {l : Ln} (x : Cell) (hS : Objs w0 w (.grid p 63 cols L :: os)) (hc : 0 < cols) (hcm : cols ≤ 1000) (hl : L[i]? = some l) (hrow : l.1.length = cols) (hv : x.ok = true) (hw : ¬ x.width = 0) (hfit : (j : Int) + x.width ≤ cols) :
    Calls Tryd.prog 54 #[.pointer (some ⟨p, 0, none⟩), .int .i64 i, .int .i64 j, .agg (cv x)] w fun e w' => e = .returned (.tuple #[]) ∧ Objs w0 w' (.grid p 63 cols (L.set i (putC j x l.1, l.2)) :: os) := by
  have S := Lib.hid hS
  have hi : i < L.length := (List.getElem?_eq_some_iff.1 hl).1
  have hxw : 1 ≤ x.width ∧ x.width ≤ 2 := by rcases ok_w12 hv hw with h | h <;> omega
  have hj : j < cols := by omega
  have HL := Lib.hid hl
  have HROW := Lib.hid hrow
  have hlr : l.1.length ≤ 1000 := by omega
  have hjr : j < l.1.length := by omega
  clear hS hl hv hw hrow
  go_enter Tryd.func54, Tryd.ntmps54
  have S2 := Lib.hid (S.out.alloc1 (c1 := cv x) (t1 := 82))
  obtain ⟨v, b, hS3⟩ := S2.out.swap.openAt HL.out
  obtain ⟨A, c, rfl, -⟩ := hS3.cellsRd (k := 0) rfl
  obtain ⟨g, rfl, -, -, -, -⟩ := (hS3.own (k := 0) rfl).head (by omega)
  obtain ⟨gr, cr, rfl, h1, h2, h3, h4, h5, h6, h7⟩ := hS3.linesxRd (k := 1) rfl
  obtain ⟨hx2, hf2, hz2⟩ := (hS3.box (k := 2) rfl).facts
  have hlen2 : L.length ≤ 9223372036854775807 := by unfold maxLen at h2; omega
  have S3 := Lib.hid hS3
  clear hS3 h1 h2 h6
  go_wp2_with fail
  refine (break_at S3.out rfl rfl (by omega) (by omega)).mono ?_
  rintro e w4 ⟨rfl, hS4⟩
  have S4 := Lib.hid hS4
  obtain ⟨hx7, hf7, hz7, hc7, hp7⟩ := (hS4.box (k := 3) rfl).box
  clear hS4 hx2 hf2 hz2 h4 h5 h7
  go_wp2_with fail
  refine (break_at (c := j + x.width.toNat) S4.out (by rw [brk_length]) (by omega) (by rw [brk_length]; omega) (by omega)).mono ?_
  rintro e w5 ⟨rfl, hS5⟩
  obtain ⟨W, hst, ho, hg⟩ := (hS5.own (k := 0) rfl).putAt (k := j) (by rw [brk_length, brk_length]; omega) x
  have hS6 := hS5.cellsUpd (k := 0) rfl ho hg
  clear hx7 hf7 hz7 hc7 hp7
  obtain ⟨hx5, hf5, hz5, hc5, hp5⟩ := (hS5.box (k := 3) rfl).box
  obtain ⟨hx7, hf7, hz7, hc7, hp7⟩ := (hS6.box (k := 3) rfl).box
  have S6 := Lib.hid hS6
  clear hS5 hS6 ho hg
  by_cases hw2 : x.width = 2
  · have hw2' := beq_yes hw2
    have HP := Lib.hid (show putC j x l.1 = (((brk (j + x.width.toNat) (brk j l.1)).set j x).set (j + 1) (⟨0, 0, 0, 0, 0, x.pen⟩ : Cell)) from if_pos hw2)
    have HW2 := Lib.hid hw2
    clear hw2
    have hj2 : j + 1 < l.1.length := by have := HW2.out; have := HROW.out; omega
    obtain ⟨W2, hst2, ho2, hg2⟩ := (S6.out.own (k := 0) rfl).putAt (k := j + 1) (by rw [List.length_set, brk_length, brk_length]; have := HW2.out; have := HROW.out; omega) (⟨0, 0, 0, 0, 0, x.pen⟩ : Cell)
    have S8 := Lib.hid (S6.out.cellsUpd (k := 0) rfl ho2 hg2)
    clear ho2 hg2
    have HF := S8.out.closeAt HL.out
    rw [← HP.out] at HF
    go_wp2_with fail
    go_end0
    exact ⟨rfl, HF.drop2⟩
  · have hw2' := beq_no hw2
    have HP := Lib.hid (show putC j x l.1 = ((brk (j + x.width.toNat) (brk j l.1)).set j x) by unfold putC; rw [if_neg hw2])
    clear hw2
    have HF := S6.out.closeAt HL.out
    rw [← HP.out] at HF
    go_wp2_with fail
    go_end0
    exact ⟨rfl, HF.drop2⟩
end
end Go.Proofs.YtghahanpmcpacaaDoor

/-
  Clear and Shift of the program's grid.
-/
set_option linter.unusedSimpArgs false
set_option linter.unusedVariables false
namespace Go.Proofs.YtghahanpmcpacaaDoor
open Go.RowKit

section
variable {w0 w : World} {os : List Ob} {p cols : Nat} {L : List Ln}
end
end Go.Proofs.YtghahanpmcpacaaDoor

/-
  Clear and Shift of the reference's grid.
-/
set_option linter.unusedSimpArgs false
set_option linter.unusedVariables false
namespace Go.Proofs.YtghahanpmcpacaaDoor
open Go.RowKit

@[go_sem] theorem run_fieldL (A : Option Addr) (n c : Nat) (b : Bool) (w : World) : (Instr.field 79 (.agg #[.slice A n c, .bool b]) 0).run Tryd.prog w = .ok (.slice A n c) w := by kernel_rfl
section
variable {w0 w : World} {os : List Ob} {p cols : Nat} {L : List Ln}
end
end Go.Proofs.YtghahanpmcpacaaDoor

/-
  SetSoft: whether a row is soft.
-/
set_option linter.unusedSimpArgs false
set_option linter.unusedVariables false
namespace Go.Proofs.YtghahanpmcpacaaDoor
open Go.RowKit

section
variable {w0 w : World} {os : List Ob} {p cols : Nat} {L : List Ln}
set_option maxHeartbeats 1000000 in
theorem SetSoft_yes {i : Nat} {l : Ln} (s : Bool) (hS : Objs w0 w (.grid p 37 cols L :: os)) (hc : 0 < cols) (hl : L[i]? = some l) (hlen : L.length ≤ 1000000) :
    Calls Tryd.prog 55 #[.pointer (some ⟨p, 0, none⟩), .int .i64 i, .bool s] w fun e w' => e = .returned (.int .i64 0) ∧ Objs w0 w' (.grid p 37 cols (L.set i (l.1, s)) :: os) := by
  have S := Lib.hid hS
  have hi : i < L.length := (List.getElem?_eq_some_iff.1 hl).1
  have HL := Lib.hid hl
  have HE := Lib.hid (show thereE i L = 0 by unfold thereE; rw [if_pos ⟨by omega, by omega⟩])
  clear hS hl
  go_enter Tryd.func55, Tryd.ntmps55
  go_wp2_with fail
  refine (there_any i S.out (k := 0) rfl hc).mono ?_
  rw [HE.out]
  rintro e w1 ⟨rfl, hS⟩
  obtain ⟨v, hS1⟩ := hS.openGrid (k := 0) rfl
  obtain ⟨A, c, rfl, hcm, hrd⟩ := hS1.linesRd (k := 0) rfl
  obtain ⟨F, bs, hF, -⟩ := hS1.get (k := 0) rfl
  obtain ⟨A2, c2, e2, -, -, -, h4⟩ := hF.form
  simp only [Value.slice.injEq, true_and] at e2
  obtain ⟨rfl, rfl⟩ := e2
  obtain ⟨g, rfl, hz, -, hso, hfz⟩ := h4 (by omega)
  have hso2 := hso i l HL.out
  obtain ⟨hx0, hf0, hz0⟩ := (hS1.box (k := 1) rfl).facts
  have S2 := Lib.hid (((hS1.storeSoft (k := 0) (s := s) rfl HL.out) : Objs w0 _ (.lines _ _ :: _ :: os)).closeGrid (k := 0) rfl)
  clear hS hS1 S hcm hrd hF h4 hso
  go_wp2_with fail
  go_ret
  exact ⟨rfl, S2.out⟩
end
end Go.Proofs.YtghahanpmcpacaaDoor

/-
  Copy of a grid.
-/
set_option linter.unusedSimpArgs false
set_option linter.unusedVariables false
namespace Go.Proofs.YtghahanpmcpacaaDoor
open Go.RowKit

def sndV : Value → Value
  | .agg a => a.getD 1 undef
  | v => v
section
variable {w0 w : World} {os : List Ob} {p cols : Nat} {L : List Ln}
set_option maxRecDepth 100000 in
set_option maxHeartbeats 2000000 in
theorem Copy_front (hS : Objs w0 w (.grid p 37 cols L :: os)) (hc : 0 < cols) (hn : ∀ l ∈ L, l.1.length ≤ 1000000) (hL : L.length ≤ 1000000) :
    Calls Tryd.prog 31 #[.pointer (some ⟨p, 0, none⟩)] w fun e w' => ∃ p2, e = .returned (.pointer (some ⟨p2, 0, none⟩)) ∧ Objs w0 w' (.grid p2 37 cols L :: .grid p 37 cols L :: os) := by
  have S := Lib.hid hS
  have HN := Lib.hid hn
  clear hS hn
  go_enter Tryd.func31, Tryd.ntmps31
  go_wp2_with fail
  refine (none_no S.out (k := 0) rfl hc).mono ?_
  rintro e w1 ⟨rfl, hS⟩
  have S1 := Lib.hid hS
  clear hS S
  go_upto_region 3 with (fail)
  refine wp_region_stage (w0 := w0) (os := os) (by kernel_rfl) (by kernel_rfl) (by kernel_rfl) [(0, 5, [5], fun vs => .lines (vs 5) L), (0, 6, [6], fun vs => .lines (sndV (vs 6)) L), (1, 7, [6, 7], fun vs => .box (blkOf (vs 7)) 37 #[.int .i64 ↑cols, sndV (vs 6)]), (1, 8, [6, 8], fun vs => .box (blkOf (vs 8)) 37 #[.int .i64 ↑cols, sndV (vs 6)])] [[], [], [], [2], [], [0, 2], [0], [1], [1]] [.none, .none, .grid p 37 ↑cols L] (fun i u => match i with | 0 => u = (.pointer (some ⟨p, 0, none⟩) : Value) | 1 => u = (.pointer (some ⟨p, 0, none⟩) : Value) | 2 => u = (.pointer (some ⟨p, 0, none⟩) : Value) | 3 => u = (.int .i64 ↑cols : Value) | 4 => u = (.pointer (some ⟨p, 0, none⟩) : Value) | 5 => ∃ A n c, u = .slice A n c | 6 => ∃ A n c, u = .agg #[.int .i64 ↑cols, .slice A n c] | 7 => ∃ g, u = .pointer (some ⟨g, 0, none⟩) | 8 => ∃ g, u = .pointer (some ⟨g, 0, none⟩) | _ => True) (fun vs => [.lines (sndV (vs 6)) L, .box (blkOf (vs 8)) 37 #[.int .i64 ↑cols, sndV (vs 6)], .grid p 37 ↑cols L]) (by kernel_rfl) (fun vs => by rfl) S1.out.pad.pad ?_ ?_
  · refine SSteps.cons (fun a w' vs σ hS hl hs hk => ?_) ?_
    · have e0 : a.tmps.getD 0 undef = (.pointer (some ⟨p, 0, none⟩) : Value) := (sk_old hk 0 (by kernel_rfl)).trans rfl
      have f0 := gd e0
      exact ro_pure (v := .pointer (some ⟨p, 0, none⟩)) (wanted_none rfl) (by simp [execOp, Act.eval, e0, f0, go_sem]) (sp_same (by kernel_rfl) hl hs hS (show (.pointer (some ⟨p, 0, none⟩) : Value) = _ from rfl)) trivial
    refine SSteps.cons (fun a w' vs σ hS hl hs hk => ?_) ?_
    · have e5 : a.tmps.getD 5 undef = (.pointer (some ⟨p, 0, none⟩) : Value) := (sk_val hk 0 (by kernel_rfl) rfl rfl).trans ((hk.1 0 (by kernel_rfl)).1)
      have f5 := gd e5
      exact ro_pure (v := .pointer (some ⟨p, 0, none⟩)) (wanted_none rfl) (by simp [execOp, Act.eval, e5, f5, go_sem]) (sp_same (by kernel_rfl) hl hs hS (show (.pointer (some ⟨p, 0, none⟩) : Value) = _ from rfl)) trivial
    refine SSteps.cons (fun a w' vs σ hS hl hs hk => ?_) ?_
    · have e6 : a.tmps.getD 6 undef = (.pointer (some ⟨p, 0, none⟩) : Value) := (sk_val hk 1 (by kernel_rfl) rfl rfl).trans ((hk.1 1 (by kernel_rfl)).1)
      have f6 := gd e6
      exact ro_pure (v := .pointer (some ⟨p, 0, none⟩)) (wanted_none rfl) (by simp [execOp, Act.eval, e6, f6, go_sem]) (sp_same (by kernel_rfl) hl hs hS (show (.pointer (some ⟨p, 0, none⟩) : Value) = _ from rfl)) trivial
    refine SSteps.cons (fun a w' vs σ hS hl hs hk => ?_) ?_
    · have e7 : a.tmps.getD 7 undef = (.pointer (some ⟨p, 0, none⟩) : Value) := (sk_val hk 2 (by kernel_rfl) rfl rfl).trans ((hk.1 2 (by kernel_rfl)).1)
      have f7 := gd e7
      obtain ⟨A1, c1, hB1, -, -⟩ := hS.gridRd (sg (hs 2 (by decide)))
      have hx := hB1.cell
      exact ro_pure (v := .int .i64 ↑cols) (wanted_none rfl) (by simp [execOp, Act.eval, e7, f7, go_sem, hx]) (sp_same (by kernel_rfl) hl hs hS (show (.int .i64 ↑cols : Value) = _ from rfl)) trivial
    refine SSteps.cons (fun a w' vs σ hS hl hs hk => ?_) ?_
    · have e0 : a.tmps.getD 0 undef = (.pointer (some ⟨p, 0, none⟩) : Value) := (sk_old hk 0 (by kernel_rfl)).trans rfl
      have f0 := gd e0
      exact ro_pure (v := .pointer (some ⟨p, 0, none⟩)) (wanted_none rfl) (by simp [execOp, Act.eval, e0, f0, go_sem]) (sp_same (by kernel_rfl) hl hs hS (show (.pointer (some ⟨p, 0, none⟩) : Value) = _ from rfl)) trivial
    refine SSteps.cons (fun a w' vs σ hS hl hs hk => ?_) ?_
    · have e9 : a.tmps.getD 9 undef = (.pointer (some ⟨p, 0, none⟩) : Value) := (sk_val hk 4 (by kernel_rfl) rfl rfl).trans ((hk.1 4 (by kernel_rfl)).1)
      have f9 := gd e9
      have h0 : σ[0]? = some .none := hs 0 (by decide)
      have h2 : σ[2]? = some (.grid p 37 ↑cols L) := hs 2 (by decide)
      exact ro_call (f := 23) (wanted_none rfl) rfl (by simp only [List.map_toArray, List.map_cons, List.map_nil, Act.eval, e9] <;> rfl) (fun _ _ => by kernel_rfl) ((Lines_any hS (sg h2) hc HN.out hL).mono fun e w2 ⟨x, h1, h2⟩ => ⟨_, h1, sp_set 0 (.lines x L) (by kernel_rfl) (by simp) (by decide) hl hs (by rfl) (h2.place (sg h0)) (by obtain ⟨A, c, e, -⟩ := h2.linesRd (k := 0) rfl; exact ⟨A, _, c, e⟩), trivial⟩)
    refine SSteps.cons (fun a w' vs σ hS hl hs hk => ?_) ?_
    · have e8 : a.tmps.getD 8 undef = (.int .i64 ↑cols : Value) := (sk_val hk 3 (by kernel_rfl) rfl rfl).trans ((hk.1 3 (by kernel_rfl)).1)
      have f8 := gd e8
      have e10 : a.tmps.getD 10 undef = vs 5 := sk_val hk 5 (by kernel_rfl) rfl rfl
      have p10 : (fun u : Value => ∃ A n c, u = .slice A n c) (vs 5) := (hk.1 5 (by kernel_rfl)).1
      have f10 := gd e10
      obtain ⟨A5, n5, c5, q5⟩ := p10
      have e9 := e10.trans q5
      have f9 := gd e9
      have h0 : σ[0]? = some (.lines (vs 5) L) := hs 0 (by decide)
      rw [q5] at h0
      have hSS : Objs w0 w' ((σ ++ os).set 0 (.lines (.slice A5 n5 c5) L)) := by rw [set_self (sg h0)]; exact hS
      exact rs_run (v' := .agg #[.int .i64 ↑cols, .slice A5 n5 c5]) (w' := w') (wanted_none rfl) (by simp [execOp, Act.eval, e8, f8, e9, f9, go_sem]) (sp_set 0 (.lines (.slice A5 n5 c5) L) (by kernel_rfl) (by simp) (by decide) hl hs (by rfl) hSS ⟨A5, n5, c5, rfl⟩)
    refine SSteps.cons (fun a w' vs σ hS hl hs hk => ?_) ?_
    · have e11 : a.tmps.getD 11 undef = vs 6 := sk_val hk 6 (by kernel_rfl) rfl rfl
      have p11 : (fun u : Value => ∃ A n c, u = .agg #[.int .i64 ↑cols, .slice A n c]) (vs 6) := (hk.1 6 (by kernel_rfl)).1
      have f11 := gd e11
      obtain ⟨A6, n6, c6, q6⟩ := p11
      have e9 := e11.trans q6
      have f9 := gd e9
      have h1 : σ[1]? = some .none := hs 1 (by decide)
      exact rs_run (v' := .pointer (some ⟨w'.heap.size, 0, none⟩)) (w' := w'.alloc (.cells #[.int .i64 ↑cols, .slice A6 n6 c6] 37)) (wanted_none rfl) (by simp [execOp, Act.eval, e9, f9, go_sem]) (sp_set 1 (.box w'.heap.size 37 #[.int .i64 ↑cols, .slice A6 n6 c6]) (by kernel_rfl) (by simp) (by decide) hl hs (by show Ob.box (blkOf (.pointer (some ⟨w'.heap.size, 0, none⟩))) 37 #[.int .i64 ↑cols, sndV (vs 6)] = _; rw [q6]; rfl) (hS.alloc1.place (sg h1)) ⟨_, rfl⟩)
    refine SSteps.cons (fun a w' vs σ hS hl hs hk => ?_) ?_
    · have e12 : a.tmps.getD 12 undef = vs 7 := sk_val hk 7 (by kernel_rfl) rfl rfl
      have p12 : (fun u : Value => ∃ g, u = .pointer (some ⟨g, 0, none⟩)) (vs 7) := (hk.1 7 (by kernel_rfl)).1
      have f12 := gd e12
      obtain ⟨g7, q7⟩ := p12
      have e9 := e12.trans q7
      have f9 := gd e9
      have h1 : σ[1]? = some (.box (blkOf (vs 7)) 37 #[.int .i64 ↑cols, sndV (vs 6)]) := hs 1 (by decide)
      rw [q7, show blkOf (.pointer (some ⟨g7, 0, none⟩)) = g7 from rfl] at h1
      have hSS : Objs w0 w' ((σ ++ os).set 1 (.box g7 37 #[.int .i64 ↑cols, sndV (vs 6)])) := by rw [set_self (sg h1)]; exact hS
      exact rs_run (v' := .pointer (some ⟨g7, 0, none⟩)) (w' := w') (wanted_none rfl) (by simp [execOp, Act.eval, e9, f9, go_sem]) (sp_set 1 (.box g7 37 #[.int .i64 ↑cols, sndV (vs 6)]) (by kernel_rfl) (by simp) (by decide) hl hs (by rfl) hSS ⟨g7, rfl⟩)
    exact SSteps.nil
  · intro vs w' hS hv
    have q0 := (show vs 0 = (.pointer (some ⟨p, 0, none⟩) : Value) from hv 0 (by decide))
    have q1 := (show vs 1 = (.pointer (some ⟨p, 0, none⟩) : Value) from hv 1 (by decide))
    have q2 := (show vs 2 = (.pointer (some ⟨p, 0, none⟩) : Value) from hv 2 (by decide))
    have q3 := (show vs 3 = (.int .i64 ↑cols : Value) from hv 3 (by decide))
    have q4 := (show vs 4 = (.pointer (some ⟨p, 0, none⟩) : Value) from hv 4 (by decide))
    obtain ⟨g8, q8⟩ := (show ∃ g, vs 8 = .pointer (some ⟨g, 0, none⟩) from hv 8 (by decide))
    rw [q8] at hS
    have S2 := Lib.hid hS
    simp only [putL, Act.put, Nat.zero_add, Nat.reduceAdd, List.setIfInBounds_toArray, List.set_cons_succ, List.set_cons_zero, q0, q1, q2, q3, q4]
    clear hS hv q0 q1 q2 q3 q4
    have HF := (show Objs w0 w' (.lines _ L :: .box g8 37 _ :: _ :: os) from S2.out).closeGrid (k := 0) rfl
    clear S2
    simp only [q8]
    go_wp2_with fail
    go_ret
    exact ⟨g8, rfl, HF⟩
end
end Go.Proofs.YtghahanpmcpacaaDoor

/-
  The reference's comparison of lines, and of lists of lines.
-/
set_option linter.unusedSimpArgs false
set_option linter.unusedVariables false
namespace Go.Proofs.YtghahanpmcpacaaDoor
open Go.RowKit

theorem tt_of {f : FuncId} {args : Array Value} {w : World} {b : Bool} (hc : Calls Tryd.prog f args w fun e w' => e = .returned (.bool b) ∧ Below w.heap.size w w') (h : b = true) : Calls Tryd.prog f args w fun e w' => e = .returned (.bool true) ∧ Below w.heap.size w w' := h ▸ hc
theorem ff_of {f : FuncId} {args : Array Value} {w : World} {b : Bool} (hc : Calls Tryd.prog f args w fun e w' => e = .returned (.bool b) ∧ Below w.heap.size w w') (h : b = false) : Calls Tryd.prog f args w fun e w' => e = .returned (.bool false) ∧ Below w.heap.size w w' := h ▸ hc
theorem upto_eqG {α : Type} {xs ys : List α} (hl : xs.length = ys.length) (h : ∀ k, k < xs.length → xs[k]? = ys[k]?) : xs = ys := by
  apply List.ext_getElem?
  intro k
  rcases Nat.lt_or_ge k xs.length with hk | hk
  · exact h k hk
  · rw [List.getElem?_eq_none hk, List.getElem?_eq_none (by omega)]
set_option maxHeartbeats 2000000 in
theorem r14SameLine_any (A B : Option Addr) (ca cb : Nat) (xs ys : List Cell) (s t : Bool) (w : World) (ha : RdC w A ca xs) (hb : RdC w B cb ys) (hn : xs.length ≤ 1000000) (hm : ys.length ≤ 1000000) :
    Calls Tryd.prog 35 #[.agg #[.slice A xs.length ca, .bool s], .agg #[.slice B ys.length cb, .bool t]] w fun e w' => e = .returned (.bool (eqL xs s ys t)) ∧ Below w.heap.size w w' := by
  have HA := Lib.hid ha
  have HB := Lib.hid hb
  clear ha hb
  have HD := Lib.hid (lineEq_dec xs ys s t)
  by_cases hst : s = t
  case neg =>
    have h' : (s == t) = false := by simpa using hst
    go_enter Tryd.func35, Tryd.ntmps35
    go_wp2_with fail
    go_ret
    exact ⟨by rw [HD.out]; simp [hst], (belA _ _).trans ((belA _ _).mono (by simp))⟩
  subst hst
  by_cases hl : xs.length = ys.length
  case neg =>
    have HE := Lib.hid (show decide (xs = ys) = false by simp; intro h; exact hl (by rw [h]))
    have hl' : ((xs.length : Int) == (ys.length : Int)) = false := by rw [beq_eq_false_iff_ne]; omega
    clear hl
    go_enter Tryd.func35, Tryd.ntmps35
    go_wp2_with fail
    go_ret
    exact ⟨by rw [HD.out, HE.out]; simp, (belA _ _).trans ((belA _ _).mono (by simp))⟩
  have hl' : ((xs.length : Int) == (ys.length : Int)) = true := by simp; omega
  have HL := Lib.hid hl
  clear hl
  go_enter Tryd.func35, Tryd.ntmps35
  go_wp2_with fail
  go_loopw [5] (fun i wr => ∃ k : Nat, k ≤ xs.length ∧ i = .int .i64 k ∧ (∀ j, j < k → xs[j]? = ys[j]?) ∧ Blk wr w.heap.size 79 #[.slice A xs.length ca, .bool s] ∧ Blk wr (w.heap.size + 1) 79 #[.slice B ys.length cb, .bool s] ∧ Below w.heap.size w wr) (fun i _ => xs.length - (intOf i).toNat)
  case atStart => exact ⟨0, by omega, rfl, fun j hj => by omega, (Blk.new _ _ _).alloc _, by have := Blk.new (w.alloc (.cells #[.slice A xs.length ca, .bool s] 79)) 79 #[.slice B ys.length cb, .bool s]; simpa using this, (belA _ _).trans ((belA _ _).mono (by simp))⟩
  case round =>
    obtain ⟨k, hk, rfl, hj, hk1, hk2, hb⟩ := hrel
    have HJ := Lib.hid hj
    have HW := Lib.hid hb
    have K1 := Lib.hid hk1
    have K2 := Lib.hid hk2
    obtain ⟨hx1, hf1, hz1⟩ := hk1.facts
    obtain ⟨hx2, hf2, hz2⟩ := hk2.facts
    clear hj hb hk1 hk2
    by_cases hlt : k < xs.length
    · have hlt2 : k < ys.length := by have := HL.out; omega
      obtain ⟨b1, o1, rfl, hz3, hr1⟩ := (HA.out.bel HW.out).at_ hlt
      obtain ⟨b2, o2, rfl, hz4, hr2⟩ := (HB.out.bel HW.out).at_ hlt2
      have hc1 := elem_cell hr1 hlt
      have hc2 := elem_cell hr2 hlt2
      clear hr1 hr2
      by_cases he : xs[k] = ys[k]
      · have he' : decide (xs[k] = ys[k]) = true := by simpa using he
        have HE := Lib.hid he
        clear he
        go_wp2_with fail
        refine wp_region_below (by kernel_rfl) (by kernel_rfl) ?_
        repeat (go_big_quiet_step (fail))
        refine wpQuiet_nil ?_
        intro w2 hb2
        have K12 := Lib.hid (K1.out.bel hb2)
        have K22 := Lib.hid (K2.out.bel hb2)
        clear hx1 hf1 hz1 hx2 hf2 hz2 hc1 hc2
        go_wp2_with fail
        go_roundw
        case rel => exact ⟨k + 1, by omega, by go_num, upto_succ HJ.out (by rw [List.getElem?_eq_getElem hlt, List.getElem?_eq_getElem hlt2, HE.out]), K12.out, K22.out, HW.out.trans (hb2.mono HW.out.size)⟩
        case measure => simp [intOf]; omega
      · have he' : decide (xs[k] = ys[k]) = false := by simpa using he
        have HE := Lib.hid (show decide (xs = ys) = false by simp; rintro rfl; exact he rfl)
        clear he
        go_wp2_with fail
        refine wp_region_below (by kernel_rfl) (by kernel_rfl) ?_
        repeat (go_big_quiet_step (fail))
        refine wpQuiet_nil ?_
        intro w2 hb2
        clear hx1 hf1 hz1 hx2 hf2 hz2 hc1 hc2
        go_wp2_with fail
        go_ret
        exact ⟨by rw [HD.out, HE.out]; simp, HW.out.trans (hb2.mono HW.out.size)⟩
    · have HE := Lib.hid (show decide (xs = ys) = true by simp; exact upto_eq HL.out (fun j hj => HJ.out j (by omega)))
      go_wp2_with fail
      go_ret
      exact ⟨by rw [HD.out, HE.out]; simp, HW.out⟩
theorem eqL_line (a b : Ln) : eqL a.1 a.2 b.1 b.2 = decide (a = b) := rfl
set_option maxHeartbeats 2000000 in
theorem r14SameLines_any (A B : Option Addr) (ca cb : Nat) (xs ys : List Ln) (w : World) (ha : RdL w A ca xs) (hb : RdL w B cb ys) (hn : xs.length ≤ 1000000) (hm : ys.length ≤ 1000000) (hx : ∀ l ∈ xs, l.1.length ≤ 1000000) (hy : ∀ l ∈ ys, l.1.length ≤ 1000000) :
    Calls Tryd.prog 22 #[.slice A xs.length ca, .slice B ys.length cb] w fun e w' => e = .returned (.bool (decide (xs = ys))) ∧ Below w.heap.size w w' := by
  have HA := Lib.hid ha
  have HB := Lib.hid hb
  have HX := Lib.hid hx
  have HY := Lib.hid hy
  clear ha hb hx hy
  by_cases hl : xs.length = ys.length
  case neg =>
    have HE := Lib.hid (show decide (xs = ys) = false by simp; intro h; exact hl (by rw [h]))
    have hl' : ((xs.length : Int) == (ys.length : Int)) = false := by rw [beq_eq_false_iff_ne]; omega
    clear hl
    go_enter Tryd.func22, Tryd.ntmps22
    go_wp2_with fail
    go_ret
    exact ⟨by rw [HE.out]; rfl, Below.refl _ _⟩
  have hl' : ((xs.length : Int) == (ys.length : Int)) = true := by simp; omega
  have HL := Lib.hid hl
  clear hl
  go_enter Tryd.func22, Tryd.ntmps22
  go_wp2_with fail
  go_loopw [5] (fun i wr => ∃ k : Nat, k ≤ xs.length ∧ i = .int .i64 k ∧ (∀ j, j < k → xs[j]? = ys[j]?) ∧ Below w.heap.size w wr) (fun i _ => xs.length - (intOf i).toNat)
  case atStart => exact ⟨0, by omega, rfl, fun j hj => by omega, Below.refl _ _⟩
  case round =>
    obtain ⟨k, hk, rfl, hj, hb⟩ := hrel
    have HJ := Lib.hid hj
    have HW := Lib.hid hb
    clear hj hb
    by_cases hlt : k < xs.length
    · have hlt2 : k < ys.length := by have := HL.out; omega
      obtain ⟨b1, o1, A1, c1, rfl, hz1, hc1, hc2, hr1⟩ := (HA.out.bel HW.out).at_ (show xs[k]? = some xs[k] by simp [hlt])
      obtain ⟨b2, o2, A2, c2, rfl, hz2, hc3, hc4, hr2⟩ := (HB.out.bel HW.out).at_ (show ys[k]? = some ys[k] by simp [hlt2])
      have HR1 := Lib.hid hr1
      have HR2 := Lib.hid hr2
      clear hr1 hr2
      have HN1 := Lib.hid (HX.out _ (List.getElem_mem hlt))
      have HN2 := Lib.hid (HY.out _ (List.getElem_mem hlt2))
      by_cases he : xs[k] = ys[k]
      · have HE := Lib.hid he
        have HQ := Lib.hid (show eqL xs[k].1 xs[k].2 ys[k].1 ys[k].2 = true by rw [eqL_line]; simpa using he)
        clear he
        go_wp2_with fail
        refine wp_region_below (by kernel_rfl) (by kernel_rfl) ?_
        repeat (go_big_quiet_step ((go_at_call 35; exact quiet_below (tt_of (r14SameLine_any A1 A2 c1 c2 xs[k].1 ys[k].1 xs[k].2 ys[k].2 _ (HR1.out.bel (below_plus _ _)) (HR2.out.bel (below_plus _ _)) HN1.out HN2.out) HQ.out))))
        refine wpQuiet_nil ?_
        intro w2 hb2
        clear hc1 hc2 hc3 hc4
        go_wp2_with fail
        go_roundw
        case rel => exact ⟨k + 1, by omega, by go_num, upto_succ HJ.out (by rw [List.getElem?_eq_getElem hlt, List.getElem?_eq_getElem hlt2, HE.out]), HW.out.trans (hb2.mono HW.out.size)⟩
        case measure => simp [intOf]; omega
      · have HE := Lib.hid (show decide (xs = ys) = false by simp; rintro rfl; exact he rfl)
        have HQ := Lib.hid (show eqL xs[k].1 xs[k].2 ys[k].1 ys[k].2 = false by rw [eqL_line]; simpa using he)
        clear he
        go_wp2_with fail
        refine wp_region_below (by kernel_rfl) (by kernel_rfl) ?_
        repeat (go_big_quiet_step ((go_at_call 35; exact quiet_below (ff_of (r14SameLine_any A1 A2 c1 c2 xs[k].1 ys[k].1 xs[k].2 ys[k].2 _ (HR1.out.bel (below_plus _ _)) (HR2.out.bel (below_plus _ _)) HN1.out HN2.out) HQ.out))))
        refine wpQuiet_nil ?_
        intro w2 hb2
        clear hc1 hc2 hc3 hc4
        go_wp2_with fail
        go_ret
        exact ⟨by rw [HE.out]; rfl, HW.out.trans (hb2.mono HW.out.size)⟩
    · have HE := Lib.hid (show decide (xs = ys) = true by simp; exact upto_eqG HL.out (fun j hj => HJ.out j (by omega)))
      go_wp2_with fail
      go_ret
      exact ⟨by rw [HE.out]; rfl, HW.out⟩
end Go.Proofs.YtghahanpmcpacaaDoor

/-
  Same: whether two grids are equal.
-/
set_option linter.unusedSimpArgs false
set_option linter.unusedVariables false
namespace Go.Proofs.YtghahanpmcpacaaDoor
open Go.RowKit

set_option maxHeartbeats 2000000 in
theorem eqFunc_any (A B : Option Addr) (ca cb : Nat) (xs ys : List Ln) (w : World) (ha : RdL w A ca xs) (hb : RdL w B cb ys) (hn : xs.length ≤ 1000000) (hm : ys.length ≤ 1000000) (hx : ∀ l ∈ xs, l.1.length ≤ 1000000) (hy : ∀ l ∈ ys, l.1.length ≤ 1000000) :
    Calls Tryd.prog 63 #[.slice A xs.length ca, .slice B ys.length cb, .func (.func 64) #[] #[]] w fun e w' => e = .returned (.bool (decide (xs = ys))) ∧ Below w.heap.size w w' := by
  have HA := Lib.hid ha
  have HB := Lib.hid hb
  have HX := Lib.hid hx
  have HY := Lib.hid hy
  clear ha hb hx hy
  by_cases hl : xs.length = ys.length
  case neg =>
    have HE := Lib.hid (show decide (xs = ys) = false by simp; intro h; exact hl (by rw [h]))
    have hl' : ((xs.length : Int) == (ys.length : Int)) = false := by rw [beq_eq_false_iff_ne]; omega
    clear hl
    go_enter Tryd.func63, Tryd.ntmps63
    go_wp2_with fail
    go_ret
    exact ⟨by rw [HE.out]; rfl, Below.refl _ _⟩
  have hl' : ((xs.length : Int) == (ys.length : Int)) = true := by simp; omega
  have hl2 : ((xs.length : Int) != (ys.length : Int)) = false := by simp; omega
  have HL := Lib.hid hl
  clear hl
  go_enter Tryd.func63, Tryd.ntmps63
  go_wp2_with fail
  go_loopw [7, 8, 9, 17] (fun _ _ _ i wr => ∃ k : Nat, k ≤ xs.length ∧ i = .int .i64 k ∧ (∀ j, j < k → xs[j]? = ys[j]?) ∧ Below w.heap.size w wr) (fun _ _ _ i _ => xs.length - (intOf i).toNat)
  case atStart => exact ⟨0, by omega, rfl, fun j hj => by omega, Below.refl _ _⟩
  case round =>
    obtain ⟨k, hk, rfl, hj, hb⟩ := hrel
    have HJ := Lib.hid hj
    have HW := Lib.hid hb
    clear hj hb
    by_cases hlt : k < xs.length
    · have hlt2 : k < ys.length := by have := HL.out; omega
      obtain ⟨b1, o1, A1, c1, rfl, hz1, hc1, hc2, hr1⟩ := (HA.out.bel HW.out).at_ (show xs[k]? = some xs[k] by simp [hlt])
      obtain ⟨b2, o2, A2, c2, rfl, hz2, hc3, hc4, hr2⟩ := (HB.out.bel HW.out).at_ (show ys[k]? = some ys[k] by simp [hlt2])
      have HR1 := Lib.hid hr1
      have HR2 := Lib.hid hr2
      clear hr1 hr2
      have HN1 := Lib.hid (HX.out _ (List.getElem_mem hlt))
      have HN2 := Lib.hid (HY.out _ (List.getElem_mem hlt2))
      by_cases he : xs[k] = ys[k]
      · have HE := Lib.hid he
        have HQ := Lib.hid (show eqL xs[k].1 xs[k].2 ys[k].1 ys[k].2 = true by rw [eqL_line]; simpa using he)
        clear he
        go_wp2_with fail
        refine (tt_of (lineEqual_any A1 A2 c1 c2 xs[k].1 ys[k].1 xs[k].2 ys[k].2 _ ((HR1.out.alloc _).alloc _) ((HR2.out.alloc _).alloc _) HN1.out HN2.out) HQ.out).mono ?_
        rintro e w2 ⟨rfl, hb2⟩
        have HB2 := Lib.hid (bel1 (bel1 hb2))
        clear hc1 hc2 hc3 hc4 hb2
        go_wp2_with fail
        go_roundw
        case rel => exact ⟨k + 1, by omega, by go_num, upto_succ HJ.out (by rw [List.getElem?_eq_getElem hlt, List.getElem?_eq_getElem hlt2, HE.out]), HW.out.trans (HB2.out.mono HW.out.size)⟩
        case measure => simp [intOf]; omega
      · have HE := Lib.hid (show decide (xs = ys) = false by simp; rintro rfl; exact he rfl)
        have HQ := Lib.hid (show eqL xs[k].1 xs[k].2 ys[k].1 ys[k].2 = false by rw [eqL_line]; simpa using he)
        clear he
        go_wp2_with fail
        refine (ff_of (lineEqual_any A1 A2 c1 c2 xs[k].1 ys[k].1 xs[k].2 ys[k].2 _ ((HR1.out.alloc _).alloc _) ((HR2.out.alloc _).alloc _) HN1.out HN2.out) HQ.out).mono ?_
        rintro e w2 ⟨rfl, hb2⟩
        have HB2 := Lib.hid (bel1 (bel1 hb2))
        clear hc1 hc2 hc3 hc4 hb2
        go_wp2_with fail
        go_ret
        exact ⟨by rw [HE.out]; rfl, HW.out.trans (HB2.out.mono HW.out.size)⟩
    · have HE := Lib.hid (show decide (xs = ys) = true by simp; exact upto_eqG HL.out (fun j hj => HJ.out j (by omega)))
      go_wp2_with fail
      go_ret
      exact ⟨by rw [HE.out]; rfl, HW.out⟩
end Go.Proofs.YtghahanpmcpacaaDoor

/-
  Same of two grids.
-/
set_option linter.unusedSimpArgs false
set_option linter.unusedVariables false
namespace Go.Proofs.YtghahanpmcpacaaDoor
open Go.RowKit

section
variable {w0 w : World} {os : List Ob}
set_option maxHeartbeats 2000000 in
theorem Same_any {k1 k2 p1 p2 c1 c2 : Nat} {L1 L2 : List Ln} (hS : Objs w0 w os) (hk1 : os[k1]? = some (.grid p1 37 c1 L1)) (hk2 : os[k2]? = some (.grid p2 37 c2 L2)) (h1 : 0 < c1) (h2 : 0 < c2) (hn1 : L1.length ≤ 1000000) (hn2 : L2.length ≤ 1000000) (hx : ∀ l ∈ L1, l.1.length ≤ 1000000) (hy : ∀ l ∈ L2, l.1.length ≤ 1000000) :
    Calls Tryd.prog 32 #[.pointer (some ⟨p1, 0, none⟩), .pointer (some ⟨p2, 0, none⟩)] w fun e w' => e = .returned (.bool (decide (c1 = c2) && decide (L1 = L2))) ∧ Objs w0 w' os := by
  have S := Lib.hid hS
  have HK1 := Lib.hid hk1
  have HK2 := Lib.hid hk2
  have HX := Lib.hid hx
  have HY := Lib.hid hy
  clear hS hk1 hk2 hx hy
  go_enter Tryd.func32, Tryd.ntmps32
  go_wp2_with fail
  refine (none_no S.out HK1.out h1).mono ?_
  rintro e w1 ⟨rfl, hS⟩
  have S1 := Lib.hid hS
  clear hS
  go_wp2_with fail
  refine (none_no S1.out HK2.out h2).mono ?_
  rintro e w2 ⟨rfl, hS⟩
  have S2 := Lib.hid hS
  obtain ⟨A1, d1, hB1, -, hr1⟩ := hS.gridRd HK1.out
  obtain ⟨A2, d2, hB2, -, hr2⟩ := hS.gridRd HK2.out
  have R1 := Lib.hid hr1
  have R2 := Lib.hid hr2
  obtain ⟨hx1, hf1, hz1⟩ := hB1.facts
  obtain ⟨hx2, hf2, hz2⟩ := hB2.facts
  clear hS hB1 hB2 hr1 hr2
  by_cases hc : c1 = c2
  case neg =>
    have hc' : decide ((c1 : Int) = (c2 : Int)) = false := by simp; omega
    have hcb : ((c1 : Int) == (c2 : Int)) = false := by rw [beq_eq_false_iff_ne]; omega
    have HC := Lib.hid hc
    clear hc
    go_wp2_with fail
    refine wp_region_below (by kernel_rfl) (by kernel_rfl) ?_
    repeat (go_big_quiet_step (fail))
    refine wpQuiet_nil ?_
    intro w3 hb3
    have S3 := Lib.hid (S2.out.bel hb3)
    clear hx1 hf1 hz1 hx2 hf2 hz2
    go_wp2_with fail
    go_ret
    exact ⟨by rw [show decide (c1 = c2) = false by simpa using HC.out]; rfl, S3.out⟩
  subst hc
  go_wp2_with fail
  refine wp_region_below (by kernel_rfl) (by kernel_rfl) ?_
  repeat (go_big_quiet_step ((go_at_call 63; exact quiet_below (eqFunc_any A1 A2 d1 d2 L1 L2 _ (R1.out.bel (below_plus _ _)) (R2.out.bel (below_plus _ _)) hn1 hn2 HX.out HY.out))))
  refine wpQuiet_nil ?_
  intro w3 hb3
  have S3 := Lib.hid (S2.out.bel hb3)
  clear hx1 hf1 hz1 hx2 hf2 hz2
  go_wp2_with fail
  go_ret
  exact ⟨by simp, S3.out⟩
end
end Go.Proofs.YtghahanpmcpacaaDoor

/-
  What the methods of a grid do, wherever it lies among the objects.
-/
set_option linter.unusedSimpArgs false
set_option linter.unusedVariables false
namespace Go.Proofs.YtghahanpmcpacaaDoor
open Go.RowKit

/-- A row's cells turn. -/
def rowMod (i : Nat) (f : List Cell → List Cell) (L : List Ln) : List Ln := match L[i]? with | some l => L.set i (f l.1, l.2) | none => L
def softMod (i : Nat) (s : Bool) (L : List Ln) : List Ln := match L[i]? with | some l => L.set i (l.1, s) | none => L
theorem rowMod_some {i : Nat} {f : List Cell → List Cell} {L : List Ln} {l : Ln} (h : L[i]? = some l) : rowMod i f L = L.set i (f l.1, l.2) := by unfold rowMod; rw [h]
theorem softMod_some {i : Nat} {s : Bool} {L : List Ln} {l : Ln} (h : L[i]? = some l) : softMod i s L = L.set i (l.1, s) := by unfold softMod; rw [h]
theorem rowMod_length (i : Nat) (f : List Cell → List Cell) (L : List Ln) : (rowMod i f L).length = L.length := by unfold rowMod; split <;> simp
theorem softMod_length (i : Nat) (s : Bool) (L : List Ln) : (softMod i s L).length = L.length := by unfold softMod; split <;> simp
theorem rect_set {n i : Nat} {L : List Ln} {l : Ln} (h : Rect n L) (hl : l.1.length = n) : Rect n (L.set i l) := fun x hx => by
  rcases List.mem_or_eq_of_mem_set hx with h1 | rfl
  · exact h x h1
  · exact hl
theorem Rect.rowMod {n : Nat} {L : List Ln} (h : Rect n L) (i : Nat) {f : List Cell → List Cell} (hf : ∀ cs : List Cell, cs.length = n → (f cs).length = n) : Rect n (rowMod i f L) := by
  unfold Proofs.YtghahanpmcpacaaDoor.rowMod
  split
  · rename_i l hl; exact rect_set h (hf _ (h.at_ hl))
  · exact h
theorem Rect.softMod {n : Nat} {L : List Ln} (h : Rect n L) (i : Nat) (s : Bool) : Rect n (softMod i s L) := by
  unfold Proofs.YtghahanpmcpacaaDoor.softMod
  split
  · rename_i l hl; exact rect_set h (show l.1.length = n from h.at_ hl)
  · exact h
theorem Rect.mill {n : Nat} {L : List Ln} (h : Rect n L) (hn : n ≤ 1000) : ∀ l ∈ L, l.1.length ≤ 1000000 := fun l hl => by rw [h l hl]; omega
theorem get_of {α : Type} {L : List α} {i : Nat} (h : i < L.length) : ∃ l, L[i]? = some l := ⟨L[i], by simp [h]⟩
section
variable {w0 w : World} {os : List Ob} {k p cols : Nat} {L : List Ln}
theorem set_at {k : Nat} {o o' : Ob} (hk : os[k]? = some o) : (os.set k o')[k]? = some o' := List.getElem?_set_self (List.getElem?_eq_some_iff.1 hk).1
theorem PutG {i j : Nat} (x : Cell) (hT : Tabs w0) (hS : Objs w0 w os) (hk : os[k]? = some (.grid p 37 cols L)) (hcm : cols ≤ 1000) (hR : Rect cols L) (hi : i < L.length) (hv : x.ok = true) (hw : ¬ x.width = 0) (hfit : (j : Int) + x.width ≤ cols) :
    Calls Tryd.prog 41 #[.pointer (some ⟨p, 0, none⟩), .int .i64 i, .int .i64 j, .agg (cv x)] w fun e w' => e = .returned (.int .i64 0) ∧ Objs w0 w' (os.set k (.grid p 37 cols (rowMod i (putC j x) L))) := by
  obtain ⟨l, hl⟩ := get_of hi
  rw [rowMod_some hl]
  have hxw : 1 ≤ x.width := by rcases ok_w12 hv hw with h | h <;> omega
  exact front_call hS hk (fun os1 h => Put_yes x hT h (by omega) hcm hl (hR.at_ hl) hv hw hfit)
theorem r14PutG {i j : Nat} (x : Cell) (hS : Objs w0 w os) (hk : os[k]? = some (.grid p 63 cols L)) (hcm : cols ≤ 1000) (hR : Rect cols L) (hi : i < L.length) (hv : x.ok = true) (hw : ¬ x.width = 0) (hfit : (j : Int) + x.width ≤ cols) :
    Calls Tryd.prog 54 #[.pointer (some ⟨p, 0, none⟩), .int .i64 i, .int .i64 j, .agg (cv x)] w fun e w' => e = .returned (.tuple #[]) ∧ Objs w0 w' (os.set k (.grid p 63 cols (rowMod i (putC j x) L))) := by
  obtain ⟨l, hl⟩ := get_of hi
  rw [rowMod_some hl]
  have hxw : 1 ≤ x.width := by rcases ok_w12 hv hw with h | h <;> omega
  exact front_call hS hk (fun os1 h => r14Put_any x h (by omega) hcm hl (hR.at_ hl) hv hw hfit)
theorem SetSoftG {i : Nat} (s : Bool) (hS : Objs w0 w os) (hk : os[k]? = some (.grid p 37 cols L)) (hc : 0 < cols) (hi : i < L.length) (hlen : L.length ≤ 1000000) :
    Calls Tryd.prog 55 #[.pointer (some ⟨p, 0, none⟩), .int .i64 i, .bool s] w fun e w' => e = .returned (.int .i64 0) ∧ Objs w0 w' (os.set k (.grid p 37 cols (softMod i s L))) := by
  obtain ⟨l, hl⟩ := get_of hi
  rw [softMod_some hl]
  exact front_call hS hk (fun os1 h => SetSoft_yes s h hc hl hlen)
theorem CopyG (hS : Objs w0 w os) (hk : os[k]? = some (.grid p 37 cols L)) (hc : 0 < cols) (hcm : cols ≤ 1000) (hR : Rect cols L) (hL : L.length ≤ 1000000) :
    Calls Tryd.prog 31 #[.pointer (some ⟨p, 0, none⟩)] w fun e w' => ∃ p2, e = .returned (.pointer (some ⟨p2, 0, none⟩)) ∧ Objs w0 w' (.grid p2 37 cols L :: os) := by
  have hS2 := hS.lift hk
  refine (Copy_front hS2 hc (hR.mill hcm) hL).mono ?_
  rintro e w' ⟨p2, rfl, h⟩
  have h2 := h.lowerNew hk
  rw [set_self hk] at h2
  exact ⟨p2, rfl, h2⟩
end
end Go.Proofs.YtghahanpmcpacaaDoor
