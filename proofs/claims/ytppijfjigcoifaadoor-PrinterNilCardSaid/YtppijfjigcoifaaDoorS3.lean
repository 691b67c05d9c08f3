/-
  Part 3 of the texts on which the proofs of this seat stand: each part says ahead of it what it shows.
-/
import Derived.Test.YtppijfjigcoifaaDoorS2
import Derived.Lib.MinMax
import Derived.ProofKit
import Derived.OpenShut
import Derived.Deep.Slices
import Derived.Lib.LaidTab
import Derived.ChangeSame
import Derived.Carry
import Derived.Test.YtppijfjigcoifaaDoorCards
import Derived.Test.YtppijfjigcoifaaDoorTie
import Derived.WalkKit
import Derived.Deep.DeepHandedRow
set_option linter.unusedSimpArgs false
set_option linter.unusedVariables false
namespace Go.Proofs.YtppijfjigcoifaaDoor
open Go.RowKit

section
variable {cs : List Cell} {j k cols : Nat} {x : Cell} {q : Pen} {n : Int}
theorem RowV.shiftN (h : RowV cs) (hq : q.ok = true) (hl : cs.length = cols) (hj : j < cols) : RowV (shiftN j cols n q cs) := by
 unfold Proofs.YtppijfjigcoifaaDoor.shiftN
 by_cases h0 : n = 0
 ·rw [if_pos h0]; exact h
 rw [if_neg h0]
 split
 ·exact h.shiftR hq (by omega) (by omega)
 ·exact h.shiftL hq (by omega) (by omega)
end
section
variable {top bot cols : Nat} {n : Int} {q : Pen} {L : List Ln}
theorem AllV.roll (h : AllV L) (hq : q.ok = true) (htb : top ≤ bot) (hbl : bot < L.length) : AllV (rollL top bot n q cols L) := fun l hl => by
 obtain ⟨r, hr, rfl⟩ := List.getElem_of_mem hl
 have h1 := rollL_get (n := n) (q := q) (cols := cols) htb hbl r
 rw [List.getElem?_eq_getElem hr] at h1
 have hm : ∀ (o : Option Ln) (p : Prop) [Decidable p] (x : Ln), (∀ y : Ln, o = some y → RowV y.1) → some x = o.map (hardIf p) → RowV x.1 := fun o p _ x ho h => by
  cases o with
  | none => simp at h
  | some y => simp only [Option.map_some, Option.some.injEq] at h; subst h; unfold hardIf; split <;> exact ho y rfl
 have hL : ∀ (i : Nat) (y : Ln), L[i]? = some y → RowV y.1 := fun i y hy => h y (List.mem_of_getElem? hy)
 have hfr : ∀ x : Ln, some x = some (freshLn cols q) → RowV x.1 := fun x e => by simp only [Option.some.injEq] at e; rw [e]; exact rowV_blanks hq
 by_cases hn : n = 0
 ·unfold rollAt at h1; rw [if_pos hn] at h1; exact hL r _ h1.symm
 by_cases ho : r < top ∨ bot < r
 ·rw [rollAt_out hn ho] at h1; exact hm _ _ _ (hL r) h1
 by_cases hp : 0 < n
 ·by_cases h2 : r + rollK n (bot + 1 - top) ≤ bot
  ·rw [rollAt_up hp rfl ho h2] at h1; exact hm _ _ _ (hL _) h1
  ·rw [rollAt_upf hp rfl ho h2] at h1; exact hfr _ h1
 ·have hn2 : n < 0 := by omega
  by_cases h2 : r < top + rollK n (bot + 1 - top)
  ·rw [rollAt_dnf hn2 rfl ho h2] at h1; exact hfr _ h1
  ·rw [rollAt_dn hn2 rfl ho h2] at h1; exact hm _ _ _ (hL _) h1
end
end Go.Proofs.YtppijfjigcoifaaDoor

namespace Go.Proofs.YtppijfjigcoifaaDoor
open Go.RowKit

theorem AllV.rowMod {L : List Ln} (h : AllV L) (i : Nat) {f : List Cell → List Cell} (hf : ∀ l : Ln, l ∈ L → RowV (f l.1)) : AllV (rowMod i f L) := by
 rw [rowMod_is]; exact h.lnMod i hf
theorem AllV.softMod {L : List Ln} (h : AllV L) (i : Nat) (s : Bool) : AllV (softMod i s L) := by
 rw [softMod_is]; exact h.lnMod i (fun l hl => h l hl)
theorem AllV.set {L : List Ln} (h : AllV L) (i : Nat) {l : Ln} (hl : RowV l.1) : AllV (L.set i l) := fun x hx => by
 rcases List.mem_or_eq_of_mem_set hx with h1 | rfl
 ·exact h x h1
 ·exact hl
end Go.Proofs.YtppijfjigcoifaaDoor

namespace Go.Proofs.YtppijfjigcoifaaDoor
open Go.RowKit

def pickAt (σ : List Ob) : Option Nat → Ob
 | some k => σ.getD k .none
 | none => .none
theorem Objs.pick {w0 w : World} {σ os : List Ob} (h : Objs w0 w (σ ++ os)) (ks : List (Option Nat)) (hn : (ks.filterMap id).Nodup) (hlt : (ks.filterMap id).all (fun k => decide (k < σ.length)) = true) : Objs w0 w (ks.map (pickAt σ) ++ os) := by
 obtain ⟨h1, F, h2, h3, h4, h5⟩ := h
 have hk : ∀ (i k : Nat), ks[i]? = some (some k) → k < σ.length := fun i k hi => by
  have := List.all_eq_true.1 hlt k (List.mem_filterMap.2 ⟨some k, List.mem_of_getElem? hi, rfl⟩)
  simpa using this
 have hinj : ∀ (i j k : Nat), ks[i]? = some (some k) → ks[j]? = some (some k) → i = j := by
  clear hk hlt h2 h3 h4 h5 h1
  induction ks with
  | nil => intro i j k hi; simp at hi
  | cons a r ih =>
   intro i j k hi hj
   have hr : (r.filterMap id).Nodup := by
    cases a with
    | none => simpa using hn
    | some x => simp at hn; exact hn.2
   have hno : ∀ m, a = some m → ∀ q, r[q]? ≠ some (some m) := fun m e q hq => by
    subst e
    simp at hn
    exact hn.1 (List.mem_of_getElem? hq)
   cases i with
   | zero =>
    cases j with
    | zero => rfl
    | succ j => simp at hi hj; exact (hno k hi j hj).elim
   | succ i =>
    cases j with
    | zero => simp at hi hj; exact (hno k hj i hi).elim
    | succ j => simp at hi hj; rw [ih hr i j k hi hj]
 refine ⟨h1, fun i b => if i < ks.length then ∃ k, ks[i]? = some (some k) ∧ F k b else F (i - ks.length + σ.length) b, fun i o hi => ?_, fun i b hb => ?_, fun i hi b hb => ?_, fun i j b hi hj => ?_⟩
 ·by_cases hl : i < ks.length
  ·simp only [hl, if_true]
   rw [List.getElem?_append_left (by simpa using hl), List.getElem?_map] at hi
   cases hks : ks[i]? with
   | none => rw [hks] at hi; simp at hi
   | some x =>
    rw [hks] at hi
    simp only [Option.map_some, Option.some.injEq] at hi
    cases x with
    | none => subst hi; rintro b ⟨k, e, -⟩; simp at e
    | some k =>
     have hlt := hk i k hks
     have hF : (fun b => ∃ k', some (some k) = some (some k') ∧ F k' b) = F k := by
      funext b
      exact propext ⟨fun ⟨k', e, hb⟩ => by simp at e; subst e; exact hb, fun hb => ⟨k, rfl, hb⟩⟩
     rw [hF]
     refine h2 k o ?_
     rw [List.getElem?_append_left hlt, ← hi]
     show σ[k]? = some (σ.getD k .none)
     rw [List.getD_eq_getElem?_getD, List.getElem?_eq_getElem hlt]; rfl
  ·simp only [hl, if_false]
   rw [List.getElem?_append_right (by simp; omega), List.length_map] at hi
   refine h2 _ o ?_
   rw [List.getElem?_append_right (by omega), Nat.add_sub_cancel]; exact hi
 ·simp only at hb
  split at hb
  ·obtain ⟨k, -, hb⟩ := hb; exact h3 _ b hb
  ·exact h3 _ b hb
 ·simp only at hb
  simp only [List.length_append, List.length_map] at hi
  rw [if_neg (by omega)] at hb
  exact h4 _ (by simp; omega) b hb
 ·simp only at hi hj
  split at hi
  ·obtain ⟨k, hks, hi⟩ := hi
   split at hj
   ·obtain ⟨k2, hks2, hj⟩ := hj
    have := h5 _ _ b hi hj
    subst this
    exact hinj i j _ hks hks2
   ·have := h5 _ _ b hi hj
    have := hk i k hks
    omega
  ·rename_i hil
   split at hj
   ·obtain ⟨k2, hks2, hj⟩ := hj
    have := h5 _ _ b hi hj
    have := hk j k2 hks2
    omega
   ·have := h5 _ _ b hi hj
    omega
theorem wanted_undef {ops : Array Oper} {o : Oper} {a : Act} {j : Nat} {x : Oper} {d : Tmp} {b : Bool} (hg : o.guard = some (j, b)) (ho : ops[j]? = some x) (hd : x.dst = some d) (hv : a.tmps.getD d undef = undef) : Region.wanted o (yielded ops a.tmps) = false := by
 have h : yielded ops a.tmps j = none := by
  cases h : a.tmps[d]? with
  | none => simp [yielded, ho, hd, h]
  | some v =>
   have : v = undef := by simpa [h] using hv
   subst this
   simp [yielded, ho, hd, h, undef]
 simp [Region.wanted, hg, h]
end Go.Proofs.YtppijfjigcoifaaDoor

namespace Go.Proofs.YtppijfjigcoifaaDoor
open Go.RowKit

theorem tg {σ os z : List Ob} {k : Nat} {o : Ob} (hl : σ.length = z.length) (hk : os[k]? = some o) : (σ ++ os)[z.length + k]? = some o := by
 rw [← hl, List.getElem?_append_right (Nat.le_add_right _ _), Nat.add_sub_cancel_left]; exact hk
section
variable {w0 w : World} {os : List Ob} {k p cols : Nat} {L : List Ln}
end
end Go.Proofs.YtppijfjigcoifaaDoor

namespace Go.Proofs.YtppijfjigcoifaaDoor
open Go.RowKit

def chkE (row col : Int) (pend : Bool) (rows cols : Nat) : Int := if inG row col pend rows cols = true then 0 else 2
section
variable {w0 w : World} {os : List Ob} {k p cols : Nat} {L : List Ln}
set_option maxRecDepth 100000 in
set_option maxHeartbeats 4000000 in
theorem prcheck_any (row col : Int) (b5 : Bool) (hS : Objs w0 w os) (hk : os[k]? = some (.grid p 58 cols L)) (hc : 0 < cols) (hcm : cols ≤ 1000) (hL : 0 < L.length) :
  Calls Tryd.prog 76 #[.pointer (some ⟨p, 0, none⟩), .agg #[.int .i64 row, .int .i64 col, .bool b5]] w fun e w' => e = .returned (.int .i64 (chkE row col b5 L.length cols)) ∧ Objs w0 w' os := by
 have S0 := Lib.hid hS
 have HK := Lib.hid hk
 clear hS hk
 obtain ⟨b1, h1⟩ : ∃ b1, decide (row < 0) = b1 := ⟨_, rfl⟩
 obtain ⟨b2, h2⟩ : ∃ b2, decide ((L.length : Int) ≤ row) = b2 := ⟨_, rfl⟩
 obtain ⟨b3, h3⟩ : ∃ b3, decide (col < 0) = b3 := ⟨_, rfl⟩
 obtain ⟨b4, h4⟩ : ∃ b4, decide ((cols : Int) ≤ col) = b4 := ⟨_, rfl⟩
 obtain ⟨b6, h6⟩ : ∃ b6, (col != (cols : Int) - 1) = b6 := ⟨_, rfl⟩
 have HE := Lib.hid (show chkE row col b5 L.length cols = if (b1 || b2 || b3 || b4 || (b5 && b6)) = true then 2 else 0 by
  unfold chkE
  by_cases hin : inG row col b5 L.length cols = true
  ·rw [if_pos hin]
   have hi := ingrid_iff.1 hin
   have e1 : b1 = false := by rw [← h1]; exact decide_eq_false (by omega)
   have e2 : b2 = false := by rw [← h2]; exact decide_eq_false (by omega)
   have e3 : b3 = false := by rw [← h3]; exact decide_eq_false (by omega)
   have e4 : b4 = false := by rw [← h4]; exact decide_eq_false (by omega)
   have e6 : (b5 && b6) = false := by
    cases b5 with
    | false => rfl
    | true => rw [← h6, hi.2.2 rfl]; simp
   rw [e1, e2, e3, e4, e6]; rfl
  ·rw [if_neg hin]
   have : (b1 || b2 || b3 || b4 || (b5 && b6)) = true := by
    apply Classical.byContradiction
    intro h
    apply hin
    have h' : (b1 = false ∧ b2 = false ∧ b3 = false ∧ b4 = false) ∧ (b5 = true → b6 = false) := by
     revert h; cases b1 <;> cases b2 <;> cases b3 <;> cases b4 <;> cases b5 <;> cases b6 <;> simp
    obtain ⟨⟨e1, e2, e3, e4⟩, e5⟩ := h'
    subst e1; subst e2; subst e3; subst e4
    have g1 := of_decide_eq_false h1
    have g2 := of_decide_eq_false h2
    have g3 := of_decide_eq_false h3
    have g4 := of_decide_eq_false h4
    rw [ingrid_iff]
    refine ⟨by omega, by omega, fun hp => ?_⟩
    have := e5 hp
    rw [this] at h6
    simpa using h6
   rw [if_pos this])
 have H1 := Lib.hid h1
 have H2 := Lib.hid h2
 have H3 := Lib.hid h3
 have H4 := Lib.hid h4
 have H6 := Lib.hid h6
 have HWC := Lib.hid (show IntKind.i64.wrap ((cols : Int) - 1) = (cols : Int) - 1 from IntWalk.i64_in _ (by omega))
 clear h1 h2 h3 h4 h6
 go_enter Tryd.func76, Tryd.ntmps76
 go_upto_region 1 with (fail)
 refine at_objsC S0.out.alloc1 (fun W hW => ?_)
 generalize w.heap.size = bc at hW ⊢
 have S1 := Lib.hid hW
 clear hW S0
 go_wp2_with fail
 refine (Rows_any S1.out (k := k + 1) HK.out).mono ?_
 rintro e w1 ⟨rfl, hS⟩
 have S2 := Lib.hid hS
 clear hS S1
 have hl0 : ((L.length : Int) == 0) = false := beq_no (by omega)
 have hl1 : ¬ (L.length : Int) = 0 := by omega
 go_upto_region 3 with (fail)
 refine wp_region_stage (w0 := w0) (os := os) (by kernel_rfl) (by kernel_rfl) (by kernel_rfl) [] [[], [0], [], [], [], [0], [], [], [], [], [], [], [0], [], [], [], [], [0], [], [], [], [], [], [], [0], [], [], [0], [], [], [], [], [], [], []] [.box bc 48 #[.int .i64 row, .int .i64 col, .bool b5]] (fun opn u => match opn with | 0 => u = pt bc 0 | 1 => u = .int .i64 row | 2 => u = .bool b1 | 3 => u = .bool b1 | 4 => u = ((bif b1 then undef else pt bc 0) : Value) | 5 => u = ((bif b1 then undef else .int .i64 row) : Value) | 6 => u = ((bif b1 then undef else pt p 0) : Value) | 7 => u = ((bif b1 then undef else .int .i64 L.length) : Value) | 8 => u = ((bif b1 then undef else .bool b2) : Value) | 9 => u = (.bool (b1 || b2) : Value) | 10 => u = (.bool (b1 || b2) : Value) | 11 => u = ((bif b1 then undef else bif b2 then undef else pt bc 1) : Value) | 12 => u = ((bif b1 then undef else bif b2 then undef else .int .i64 col) : Value) | 13 => u = ((bif b1 then undef else bif b2 then undef else .bool b3) : Value) | 14 => u = (.bool (b1 || b2 || b3) : Value) | 15 => u = (.bool (b1 || b2 || b3) : Value) | 16 => u = ((bif b1 then undef else bif b2 then undef else bif b3 then undef else pt bc 1) : Value) | 17 => u = ((bif b1 then undef else bif b2 then undef else bif b3 then undef else .int .i64 col) : Value) | 18 => u = ((bif b1 then undef else bif b2 then undef else bif b3 then undef else pt p 0) : Value) | 19 => u = ((bif b1 then undef else bif b2 then undef else bif b3 then undef else .int .i64 ↑cols) : Value) | 20 => u = ((bif b1 then undef else bif b2 then undef else bif b3 then undef else .bool b4) : Value) | 21 => u = (.bool (b1 || b2 || b3 || b4) : Value) | 22 => u = (.bool (b1 || b2 || b3 || b4) : Value) | 23 => u = ((bif b1 then undef else bif b2 then undef else bif b3 then undef else bif b4 then undef else pt bc 2) : Value) | 24 => u = ((bif b1 then undef else bif b2 then undef else bif b3 then undef else bif b4 then undef else .bool b5) : Value) | 25 => u = ((bif b1 then undef else bif b2 then undef else bif b3 then undef else bif b4 then undef else .bool b5) : Value) | 26 => u = ((bif b1 then undef else bif b2 then undef else bif b3 then undef else bif b4 then undef else bif b5 then pt bc 1 else undef) : Value) | 27 => u = ((bif b1 then undef else bif b2 then undef else bif b3 then undef else bif b4 then undef else bif b5 then .int .i64 col else undef) : Value) | 28 => u = ((bif b1 then undef else bif b2 then undef else bif b3 then undef else bif b4 then undef else bif b5 then pt p 0 else undef) : Value) | 29 => u = ((bif b1 then undef else bif b2 then undef else bif b3 then undef else bif b4 then undef else bif b5 then .int .i64 ↑cols else undef) : Value) | 30 => u = ((bif b1 then undef else bif b2 then undef else bif b3 then undef else bif b4 then undef else bif b5 then .int .i64 (↑cols - 1) else undef) : Value) | 31 => u = ((bif b1 then undef else bif b2 then undef else bif b3 then undef else bif b4 then undef else bif b5 then .bool b6 else undef) : Value) | 32 => u = ((bif b1 then undef else bif b2 then undef else bif b3 then undef else bif b4 then undef else .bool (b5 && b6)) : Value) | 33 => u = (.bool (b1 || b2 || b3 || b4 || (b5 && b6)) : Value) | 34 => u = (.bool (b1 || b2 || b3 || b4 || (b5 && b6)) : Value) | _ => True) (fun vs => [.box bc 48 #[.int .i64 row, .int .i64 col, .bool b5]]) (by kernel_rfl) (fun vs => by rfl) S2.out ?_ ?_
 ·apply sc
  ·intro a w' vs σ hS hl hs hk
   have f3 : a.tmps[3]?.getD undef = .pointer (some ⟨bc, 0, none⟩) := sof hk
   exact rp (pt bc 0) (by simp [execOp, Act.eval, f3, go_sem]) hl hs hS
  apply sc
  ·intro a w' vs σ hS hl hs hk
   have f10 : a.tmps[10]?.getD undef = .pointer (some ⟨bc, 0, none⟩) := sf hk 0
   have hx := (hS.box (sg (hs 0 (by decide)))).cell
   exact rp (.int .i64 row) (by simp [execOp, Act.eval, f10, go_sem, hx]) hl hs hS
  apply sc
  ·intro a w' vs σ hS hl hs hk
   have f11 : a.tmps[11]?.getD undef = .int .i64 row := sf hk 1
   exact rp (.bool b1) (by simp [execOp, Act.eval, f11, go_sem, H1.out]) hl hs hS
  apply sc
  ·intro a w' vs σ hS hl hs hk
   have f12 : a.tmps[12]?.getD undef = .bool b1 := sf hk 2
   exact rp (.bool b1) (by simp [execOp, Act.eval, f12, go_sem]) hl hs hS
  apply sc
  ·intro a w' vs σ hS hl hs hk
   cases b1 with
   | true =>
    exact rs_skip (wanted_no rfl rfl rfl (sv hk 3) (by simp)) (sp_same (by kernel_rfl) hl hs hS (show undef = _ from rfl))
   | false =>
    have f3 : a.tmps[3]?.getD undef = pt bc 0 := sof hk
    exact rq (pt bc 0) (wanted_yes rfl rfl rfl (sv hk 3)) (by simp [execOp, Act.eval, f3, go_sem]) hl hs hS
  apply sc
  ·intro a w' vs σ hS hl hs hk
   cases b1 with
   | true =>
    exact rs_skip (wanted_no rfl rfl rfl (sv hk 3) (by simp)) (sp_same (by kernel_rfl) hl hs hS (show undef = _ from rfl))
   | false =>
    have f14 : a.tmps[14]?.getD undef = pt bc 0 := sf hk 4
    have hx := (hS.box (sg (hs 0 (by decide)))).cell
    exact rq (.int .i64 row) (wanted_yes rfl rfl rfl (sv hk 3)) (by simp [execOp, Act.eval, f14, go_sem, hx]) hl hs hS
  apply sc
  ·intro a w' vs σ hS hl hs hk
   cases b1 with
   | true =>
    exact rs_skip (wanted_no rfl rfl rfl (sv hk 3) (by simp)) (sp_same (by kernel_rfl) hl hs hS (show undef = _ from rfl))
   | false =>
    have f0 : a.tmps[0]?.getD undef = pt p 0 := sof hk
    exact rq (pt p 0) (wanted_yes rfl rfl rfl (sv hk 3)) (by simp [execOp, Act.eval, f0, go_sem]) hl hs hS
  apply sc
  ·intro a w' vs σ hS hl hs hk
   cases b1 with
   | true =>
    exact rs_skip (wanted_no rfl rfl rfl (sv hk 3) (by simp)) (sp_same (by kernel_rfl) hl hs hS (show undef = _ from rfl))
   | false =>
    have e16 : a.tmps.getD 16 undef = pt p 0 := sv hk 6
    exact ro_call (f := 17) (wanted_yes rfl rfl rfl (sv hk 3)) rfl (by simp only [List.map_toArray, List.map_cons, List.map_nil, Act.eval, e16] <;> rfl) (fun _ _ => by kernel_rfl) ((Rows_any hS (tg hl HK.out)).mono fun e w2 ⟨h1, h2⟩ => ⟨_, h1, sp_same (by kernel_rfl) hl hs h2 rfl, trivial⟩)
  apply sc
  ·intro a w' vs σ hS hl hs hk
   cases b1 with
   | true =>
    exact rs_skip (wanted_no rfl rfl rfl (sv hk 3) (by simp)) (sp_same (by kernel_rfl) hl hs hS (show undef = _ from rfl))
   | false =>
    have f15 : a.tmps[15]?.getD undef = .int .i64 row := sf hk 5
    have f17 : a.tmps[17]?.getD undef = .int .i64 L.length := sf hk 7
    exact rq (.bool b2) (wanted_yes rfl rfl rfl (sv hk 3)) (by simp [execOp, Act.eval, f15, f17, go_sem, H2.out]) hl hs hS
  apply sc
  ·intro a w' vs σ hS hl hs hk
   cases b1 with
   | true =>
    have e13 : a.tmps.getD 13 undef = .bool true := sv hk 3
    have f13 := gd e13
    have e18 : a.tmps.getD 18 undef = (undef : Value) := sv hk 8
    have f18 := gd e18
    exact rp (.bool (true || b2)) (by simp [execOp, Act.eval, e13, f13, e18, f18, go_sem]) hl hs hS
   | false =>
    have e13 : a.tmps.getD 13 undef = .bool false := sv hk 3
    have f13 := gd e13
    have e18 : a.tmps.getD 18 undef = .bool b2 := sv hk 8
    have f18 := gd e18
    exact rp (.bool (false || b2)) (by simp [execOp, Act.eval, e13, f13, e18, f18, go_sem]) hl hs hS
  apply sc
  ·intro a w' vs σ hS hl hs hk
   have f19 : a.tmps[19]?.getD undef = .bool (b1 || b2) := sf hk 9
   exact rp (.bool (b1 || b2)) (by simp [execOp, Act.eval, f19, go_sem]) hl hs hS
  apply sc
  ·intro a w' vs σ hS hl hs hk
   cases b1 with
   | true =>
    exact rs_skip (wanted_no rfl rfl rfl (sv hk 10) (by simp)) (sp_same (by kernel_rfl) hl hs hS (show undef = _ from rfl))
   | false =>
    cases b2 with
    | true =>
     exact rs_skip (wanted_no rfl rfl rfl (sv hk 10) (by simp)) (sp_same (by kernel_rfl) hl hs hS (show undef = _ from rfl))
    | false =>
     have f3 : a.tmps[3]?.getD undef = pt bc 0 := sof hk
     exact rq (pt bc 1) (wanted_yes rfl rfl rfl (sv hk 10)) (by simp [execOp, Act.eval, f3, go_sem]) hl hs hS
  apply sc
  ·intro a w' vs σ hS hl hs hk
   cases b1 with
   | true =>
    exact rs_skip (wanted_no rfl rfl rfl (sv hk 10) (by simp)) (sp_same (by kernel_rfl) hl hs hS (show undef = _ from rfl))
   | false =>
    cases b2 with
    | true =>
     exact rs_skip (wanted_no rfl rfl rfl (sv hk 10) (by simp)) (sp_same (by kernel_rfl) hl hs hS (show undef = _ from rfl))
    | false =>
     have f21 : a.tmps[21]?.getD undef = pt bc 1 := sf hk 11
     have hx := (hS.box (sg (hs 0 (by decide)))).cell
     exact rq (.int .i64 col) (wanted_yes rfl rfl rfl (sv hk 10)) (by simp [execOp, Act.eval, f21, go_sem, hx]) hl hs hS
  apply sc
  ·intro a w' vs σ hS hl hs hk
   cases b1 with
   | true =>
    exact rs_skip (wanted_no rfl rfl rfl (sv hk 10) (by simp)) (sp_same (by kernel_rfl) hl hs hS (show undef = _ from rfl))
   | false =>
    cases b2 with
    | true =>
     exact rs_skip (wanted_no rfl rfl rfl (sv hk 10) (by simp)) (sp_same (by kernel_rfl) hl hs hS (show undef = _ from rfl))
    | false =>
     have f22 : a.tmps[22]?.getD undef = .int .i64 col := sf hk 12
     exact rq (.bool b3) (wanted_yes rfl rfl rfl (sv hk 10)) (by simp [execOp, Act.eval, f22, go_sem, H3.out]) hl hs hS
  apply sc
  ·intro a w' vs σ hS hl hs hk
   cases b1 with
   | true =>
    cases b2 with
    | true =>
     have e20 : a.tmps.getD 20 undef = .bool (true || true) := sv hk 10
     have f20 := gd e20
     have e23 : a.tmps.getD 23 undef = (undef : Value) := sv hk 13
     have f23 := gd e23
     exact rp (.bool (true || true || b3)) (by simp [execOp, Act.eval, e20, f20, e23, f23, go_sem]) hl hs hS
    | false =>
     have e20 : a.tmps.getD 20 undef = .bool (true || false) := sv hk 10
     have f20 := gd e20
     have e23 : a.tmps.getD 23 undef = (undef : Value) := sv hk 13
     have f23 := gd e23
     exact rp (.bool (true || false || b3)) (by simp [execOp, Act.eval, e20, f20, e23, f23, go_sem]) hl hs hS
   | false =>
    cases b2 with
    | true =>
     have e20 : a.tmps.getD 20 undef = .bool (false || true) := sv hk 10
     have f20 := gd e20
     have e23 : a.tmps.getD 23 undef = (undef : Value) := sv hk 13
     have f23 := gd e23
     exact rp (.bool (false || true || b3)) (by simp [execOp, Act.eval, e20, f20, e23, f23, go_sem]) hl hs hS
    | false =>
     have e20 : a.tmps.getD 20 undef = .bool (false || false) := sv hk 10
     have f20 := gd e20
     have e23 : a.tmps.getD 23 undef = .bool b3 := sv hk 13
     have f23 := gd e23
     exact rp (.bool (false || false || b3)) (by simp [execOp, Act.eval, e20, f20, e23, f23, go_sem]) hl hs hS
  apply sc
  ·intro a w' vs σ hS hl hs hk
   have f24 : a.tmps[24]?.getD undef = .bool (b1 || b2 || b3) := sf hk 14
   exact rp (.bool (b1 || b2 || b3)) (by simp [execOp, Act.eval, f24, go_sem]) hl hs hS
  apply sc
  ·intro a w' vs σ hS hl hs hk
   cases b1 with
   | true =>
    exact rs_skip (wanted_no rfl rfl rfl (sv hk 15) (by simp)) (sp_same (by kernel_rfl) hl hs hS (show undef = _ from rfl))
   | false =>
    cases b2 with
    | true =>
     exact rs_skip (wanted_no rfl rfl rfl (sv hk 15) (by simp)) (sp_same (by kernel_rfl) hl hs hS (show undef = _ from rfl))
    | false =>
     cases b3 with
     | true =>
      exact rs_skip (wanted_no rfl rfl rfl (sv hk 15) (by simp)) (sp_same (by kernel_rfl) hl hs hS (show undef = _ from rfl))
     | false =>
      have f3 : a.tmps[3]?.getD undef = pt bc 0 := sof hk
      exact rq (pt bc 1) (wanted_yes rfl rfl rfl (sv hk 15)) (by simp [execOp, Act.eval, f3, go_sem]) hl hs hS
  apply sc
  ·intro a w' vs σ hS hl hs hk
   cases b1 with
   | true =>
    exact rs_skip (wanted_no rfl rfl rfl (sv hk 15) (by simp)) (sp_same (by kernel_rfl) hl hs hS (show undef = _ from rfl))
   | false =>
    cases b2 with
    | true =>
     exact rs_skip (wanted_no rfl rfl rfl (sv hk 15) (by simp)) (sp_same (by kernel_rfl) hl hs hS (show undef = _ from rfl))
    | false =>
     cases b3 with
     | true =>
      exact rs_skip (wanted_no rfl rfl rfl (sv hk 15) (by simp)) (sp_same (by kernel_rfl) hl hs hS (show undef = _ from rfl))
     | false =>
      have f26 : a.tmps[26]?.getD undef = pt bc 1 := sf hk 16
      have hx := (hS.box (sg (hs 0 (by decide)))).cell
      exact rq (.int .i64 col) (wanted_yes rfl rfl rfl (sv hk 15)) (by simp [execOp, Act.eval, f26, go_sem, hx]) hl hs hS
  apply sc
  ·intro a w' vs σ hS hl hs hk
   cases b1 with
   | true =>
    exact rs_skip (wanted_no rfl rfl rfl (sv hk 15) (by simp)) (sp_same (by kernel_rfl) hl hs hS (show undef = _ from rfl))
   | false =>
    cases b2 with
    | true =>
     exact rs_skip (wanted_no rfl rfl rfl (sv hk 15) (by simp)) (sp_same (by kernel_rfl) hl hs hS (show undef = _ from rfl))
    | false =>
     cases b3 with
     | true =>
      exact rs_skip (wanted_no rfl rfl rfl (sv hk 15) (by simp)) (sp_same (by kernel_rfl) hl hs hS (show undef = _ from rfl))
     | false =>
      have f0 : a.tmps[0]?.getD undef = pt p 0 := sof hk
      exact rq (pt p 0) (wanted_yes rfl rfl rfl (sv hk 15)) (by simp [execOp, Act.eval, f0, go_sem]) hl hs hS
  apply sc
  ·intro a w' vs σ hS hl hs hk
   cases b1 with
   | true =>
    exact rs_skip (wanted_no rfl rfl rfl (sv hk 15) (by simp)) (sp_same (by kernel_rfl) hl hs hS (show undef = _ from rfl))
   | false =>
    cases b2 with
    | true =>
     exact rs_skip (wanted_no rfl rfl rfl (sv hk 15) (by simp)) (sp_same (by kernel_rfl) hl hs hS (show undef = _ from rfl))
    | false =>
     cases b3 with
     | true =>
      exact rs_skip (wanted_no rfl rfl rfl (sv hk 15) (by simp)) (sp_same (by kernel_rfl) hl hs hS (show undef = _ from rfl))
     | false =>
      have e28 : a.tmps.getD 28 undef = pt p 0 := sv hk 18
      exact ro_call (f := 18) (wanted_yes rfl rfl rfl (sv hk 15)) rfl (by simp only [List.map_toArray, List.map_cons, List.map_nil, Act.eval, e28] <;> rfl) (fun _ _ => by kernel_rfl) ((Cols_any hS (tg hl HK.out)).mono fun e w2 ⟨h1, h2⟩ => ⟨_, h1, sp_same (by kernel_rfl) hl hs h2 rfl, trivial⟩)
  apply sc
  ·intro a w' vs σ hS hl hs hk
   cases b1 with
   | true =>
    exact rs_skip (wanted_no rfl rfl rfl (sv hk 15) (by simp)) (sp_same (by kernel_rfl) hl hs hS (show undef = _ from rfl))
   | false =>
    cases b2 with
    | true =>
     exact rs_skip (wanted_no rfl rfl rfl (sv hk 15) (by simp)) (sp_same (by kernel_rfl) hl hs hS (show undef = _ from rfl))
    | false =>
     cases b3 with
     | true =>
      exact rs_skip (wanted_no rfl rfl rfl (sv hk 15) (by simp)) (sp_same (by kernel_rfl) hl hs hS (show undef = _ from rfl))
     | false =>
      have f27 : a.tmps[27]?.getD undef = .int .i64 col := sf hk 17
      have f29 : a.tmps[29]?.getD undef = .int .i64 ↑cols := sf hk 19
      exact rq (.bool b4) (wanted_yes rfl rfl rfl (sv hk 15)) (by simp [execOp, Act.eval, f27, f29, go_sem, H4.out]) hl hs hS
  apply sc
  ·intro a w' vs σ hS hl hs hk
   cases b1 with
   | true =>
    cases b2 with
    | true =>
     cases b3 with
     | true =>
      have e25 : a.tmps.getD 25 undef = .bool (true || true || true) := sv hk 15
      have f25 := gd e25
      have e30 : a.tmps.getD 30 undef = (undef : Value) := sv hk 20
      have f30 := gd e30
      exact rp (.bool (true || true || true || b4)) (by simp [execOp, Act.eval, e25, f25, e30, f30, go_sem]) hl hs hS
     | false =>
      have e25 : a.tmps.getD 25 undef = .bool (true || true || false) := sv hk 15
      have f25 := gd e25
      have e30 : a.tmps.getD 30 undef = (undef : Value) := sv hk 20
      have f30 := gd e30
      exact rp (.bool (true || true || false || b4)) (by simp [execOp, Act.eval, e25, f25, e30, f30, go_sem]) hl hs hS
    | false =>
     cases b3 with
     | true =>
      have e25 : a.tmps.getD 25 undef = .bool (true || false || true) := sv hk 15
      have f25 := gd e25
      have e30 : a.tmps.getD 30 undef = (undef : Value) := sv hk 20
      have f30 := gd e30
      exact rp (.bool (true || false || true || b4)) (by simp [execOp, Act.eval, e25, f25, e30, f30, go_sem]) hl hs hS
     | false =>
      have e25 : a.tmps.getD 25 undef = .bool (true || false || false) := sv hk 15
      have f25 := gd e25
      have e30 : a.tmps.getD 30 undef = (undef : Value) := sv hk 20
      have f30 := gd e30
      exact rp (.bool (true || false || false || b4)) (by simp [execOp, Act.eval, e25, f25, e30, f30, go_sem]) hl hs hS
   | false =>
    cases b2 with
    | true =>
     cases b3 with
     | true =>
      have e25 : a.tmps.getD 25 undef = .bool (false || true || true) := sv hk 15
      have f25 := gd e25
      have e30 : a.tmps.getD 30 undef = (undef : Value) := sv hk 20
      have f30 := gd e30
      exact rp (.bool (false || true || true || b4)) (by simp [execOp, Act.eval, e25, f25, e30, f30, go_sem]) hl hs hS
     | false =>
      have e25 : a.tmps.getD 25 undef = .bool (false || true || false) := sv hk 15
      have f25 := gd e25
      have e30 : a.tmps.getD 30 undef = (undef : Value) := sv hk 20
      have f30 := gd e30
      exact rp (.bool (false || true || false || b4)) (by simp [execOp, Act.eval, e25, f25, e30, f30, go_sem]) hl hs hS
    | false =>
     cases b3 with
     | true =>
      have e25 : a.tmps.getD 25 undef = .bool (false || false || true) := sv hk 15
      have f25 := gd e25
      have e30 : a.tmps.getD 30 undef = (undef : Value) := sv hk 20
      have f30 := gd e30
      exact rp (.bool (false || false || true || b4)) (by simp [execOp, Act.eval, e25, f25, e30, f30, go_sem]) hl hs hS
     | false =>
      have e25 : a.tmps.getD 25 undef = .bool (false || false || false) := sv hk 15
      have f25 := gd e25
      have e30 : a.tmps.getD 30 undef = .bool b4 := sv hk 20
      have f30 := gd e30
      exact rp (.bool (false || false || false || b4)) (by simp [execOp, Act.eval, e25, f25, e30, f30, go_sem]) hl hs hS
  apply sc
  ·intro a w' vs σ hS hl hs hk
   have f31 : a.tmps[31]?.getD undef = .bool (b1 || b2 || b3 || b4) := sf hk 21
   exact rp (.bool (b1 || b2 || b3 || b4)) (by simp [execOp, Act.eval, f31, go_sem]) hl hs hS
  apply sc
  ·intro a w' vs σ hS hl hs hk
   cases b1 with
   | true =>
    exact rs_skip (wanted_no rfl rfl rfl (sv hk 22) (by simp)) (sp_same (by kernel_rfl) hl hs hS (show undef = _ from rfl))
   | false =>
    cases b2 with
    | true =>
     exact rs_skip (wanted_no rfl rfl rfl (sv hk 22) (by simp)) (sp_same (by kernel_rfl) hl hs hS (show undef = _ from rfl))
    | false =>
     cases b3 with
     | true =>
      exact rs_skip (wanted_no rfl rfl rfl (sv hk 22) (by simp)) (sp_same (by kernel_rfl) hl hs hS (show undef = _ from rfl))
     | false =>
      cases b4 with
      | true =>
       exact rs_skip (wanted_no rfl rfl rfl (sv hk 22) (by simp)) (sp_same (by kernel_rfl) hl hs hS (show undef = _ from rfl))
      | false =>
       have f3 : a.tmps[3]?.getD undef = pt bc 0 := sof hk
       exact rq (pt bc 2) (wanted_yes rfl rfl rfl (sv hk 22)) (by simp [execOp, Act.eval, f3, go_sem]) hl hs hS
  apply sc
  ·intro a w' vs σ hS hl hs hk
   cases b1 with
   | true =>
    exact rs_skip (wanted_no rfl rfl rfl (sv hk 22) (by simp)) (sp_same (by kernel_rfl) hl hs hS (show undef = _ from rfl))
   | false =>
    cases b2 with
    | true =>
     exact rs_skip (wanted_no rfl rfl rfl (sv hk 22) (by simp)) (sp_same (by kernel_rfl) hl hs hS (show undef = _ from rfl))
    | false =>
     cases b3 with
     | true =>
      exact rs_skip (wanted_no rfl rfl rfl (sv hk 22) (by simp)) (sp_same (by kernel_rfl) hl hs hS (show undef = _ from rfl))
     | false =>
      cases b4 with
      | true =>
       exact rs_skip (wanted_no rfl rfl rfl (sv hk 22) (by simp)) (sp_same (by kernel_rfl) hl hs hS (show undef = _ from rfl))
      | false =>
       have f33 : a.tmps[33]?.getD undef = pt bc 2 := sf hk 23
       have hx := (hS.box (sg (hs 0 (by decide)))).cell
       exact rq (.bool b5) (wanted_yes rfl rfl rfl (sv hk 22)) (by simp [execOp, Act.eval, f33, go_sem, hx]) hl hs hS
  apply sc
  ·intro a w' vs σ hS hl hs hk
   cases b1 with
   | true =>
    exact rs_skip (wanted_no rfl rfl rfl (sv hk 22) (by simp)) (sp_same (by kernel_rfl) hl hs hS (show undef = _ from rfl))
   | false =>
    cases b2 with
    | true =>
     exact rs_skip (wanted_no rfl rfl rfl (sv hk 22) (by simp)) (sp_same (by kernel_rfl) hl hs hS (show undef = _ from rfl))
    | false =>
     cases b3 with
     | true =>
      exact rs_skip (wanted_no rfl rfl rfl (sv hk 22) (by simp)) (sp_same (by kernel_rfl) hl hs hS (show undef = _ from rfl))
     | false =>
      cases b4 with
      | true =>
       exact rs_skip (wanted_no rfl rfl rfl (sv hk 22) (by simp)) (sp_same (by kernel_rfl) hl hs hS (show undef = _ from rfl))
      | false =>
       have f34 : a.tmps[34]?.getD undef = .bool b5 := sf hk 24
       exact rq (.bool b5) (wanted_yes rfl rfl rfl (sv hk 22)) (by simp [execOp, Act.eval, f34, go_sem]) hl hs hS
  apply sc
  ·intro a w' vs σ hS hl hs hk
   cases b1 with
   | true =>
    exact rs_skip (wanted_undef rfl rfl rfl (sv hk 25)) (sp_same (by kernel_rfl) hl hs hS (show undef = _ from rfl))
   | false =>
    cases b2 with
    | true =>
     exact rs_skip (wanted_undef rfl rfl rfl (sv hk 25)) (sp_same (by kernel_rfl) hl hs hS (show undef = _ from rfl))
    | false =>
     cases b3 with
     | true =>
      exact rs_skip (wanted_undef rfl rfl rfl (sv hk 25)) (sp_same (by kernel_rfl) hl hs hS (show undef = _ from rfl))
     | false =>
      cases b4 with
      | true =>
       exact rs_skip (wanted_undef rfl rfl rfl (sv hk 25)) (sp_same (by kernel_rfl) hl hs hS (show undef = _ from rfl))
      | false =>
       cases b5 with
       | true =>
        have f3 : a.tmps[3]?.getD undef = pt bc 0 := sof hk
        exact rq (pt bc 1) (wanted_yes rfl rfl rfl (sv hk 25)) (by simp [execOp, Act.eval, f3, go_sem]) hl hs hS
       | false =>
        exact rs_skip (wanted_no rfl rfl rfl (sv hk 25) (by simp)) (sp_same (by kernel_rfl) hl hs hS (show undef = _ from rfl))
  apply sc
  ·intro a w' vs σ hS hl hs hk
   cases b1 with
   | true =>
    exact rs_skip (wanted_undef rfl rfl rfl (sv hk 25)) (sp_same (by kernel_rfl) hl hs hS (show undef = _ from rfl))
   | false =>
    cases b2 with
    | true =>
     exact rs_skip (wanted_undef rfl rfl rfl (sv hk 25)) (sp_same (by kernel_rfl) hl hs hS (show undef = _ from rfl))
    | false =>
     cases b3 with
     | true =>
      exact rs_skip (wanted_undef rfl rfl rfl (sv hk 25)) (sp_same (by kernel_rfl) hl hs hS (show undef = _ from rfl))
     | false =>
      cases b4 with
      | true =>
       exact rs_skip (wanted_undef rfl rfl rfl (sv hk 25)) (sp_same (by kernel_rfl) hl hs hS (show undef = _ from rfl))
      | false =>
       cases b5 with
       | true =>
        have f36 : a.tmps[36]?.getD undef = pt bc 1 := sf hk 26
        have hx := (hS.box (sg (hs 0 (by decide)))).cell
        exact rq (.int .i64 col) (wanted_yes rfl rfl rfl (sv hk 25)) (by simp [execOp, Act.eval, f36, go_sem, hx]) hl hs hS
       | false =>
        exact rs_skip (wanted_no rfl rfl rfl (sv hk 25) (by simp)) (sp_same (by kernel_rfl) hl hs hS (show undef = _ from rfl))
  apply sc
  ·intro a w' vs σ hS hl hs hk
   cases b1 with
   | true =>
    exact rs_skip (wanted_undef rfl rfl rfl (sv hk 25)) (sp_same (by kernel_rfl) hl hs hS (show undef = _ from rfl))
   | false =>
    cases b2 with
    | true =>
     exact rs_skip (wanted_undef rfl rfl rfl (sv hk 25)) (sp_same (by kernel_rfl) hl hs hS (show undef = _ from rfl))
    | false =>
     cases b3 with
     | true =>
      exact rs_skip (wanted_undef rfl rfl rfl (sv hk 25)) (sp_same (by kernel_rfl) hl hs hS (show undef = _ from rfl))
     | false =>
      cases b4 with
      | true =>
       exact rs_skip (wanted_undef rfl rfl rfl (sv hk 25)) (sp_same (by kernel_rfl) hl hs hS (show undef = _ from rfl))
      | false =>
       cases b5 with
       | true =>
        have f0 : a.tmps[0]?.getD undef = pt p 0 := sof hk
        exact rq (pt p 0) (wanted_yes rfl rfl rfl (sv hk 25)) (by simp [execOp, Act.eval, f0, go_sem]) hl hs hS
       | false =>
        exact rs_skip (wanted_no rfl rfl rfl (sv hk 25) (by simp)) (sp_same (by kernel_rfl) hl hs hS (show undef = _ from rfl))
  apply sc
  ·intro a w' vs σ hS hl hs hk
   cases b1 with
   | true =>
    exact rs_skip (wanted_undef rfl rfl rfl (sv hk 25)) (sp_same (by kernel_rfl) hl hs hS (show undef = _ from rfl))
   | false =>
    cases b2 with
    | true =>
     exact rs_skip (wanted_undef rfl rfl rfl (sv hk 25)) (sp_same (by kernel_rfl) hl hs hS (show undef = _ from rfl))
    | false =>
     cases b3 with
     | true =>
      exact rs_skip (wanted_undef rfl rfl rfl (sv hk 25)) (sp_same (by kernel_rfl) hl hs hS (show undef = _ from rfl))
     | false =>
      cases b4 with
      | true =>
       exact rs_skip (wanted_undef rfl rfl rfl (sv hk 25)) (sp_same (by kernel_rfl) hl hs hS (show undef = _ from rfl))
      | false =>
       cases b5 with
       | true =>
        have e38 : a.tmps.getD 38 undef = pt p 0 := sv hk 28
        exact ro_call (f := 18) (wanted_yes rfl rfl rfl (sv hk 25)) rfl (by simp only [List.map_toArray, List.map_cons, List.map_nil, Act.eval, e38] <;> rfl) (fun _ _ => by kernel_rfl) ((Cols_any hS (tg hl HK.out)).mono fun e w2 ⟨h1, h2⟩ => ⟨_, h1, sp_same (by kernel_rfl) hl hs h2 rfl, trivial⟩)
       | false =>
        exact rs_skip (wanted_no rfl rfl rfl (sv hk 25) (by simp)) (sp_same (by kernel_rfl) hl hs hS (show undef = _ from rfl))
  apply sc
  ·intro a w' vs σ hS hl hs hk
   cases b1 with
   | true =>
    exact rs_skip (wanted_undef rfl rfl rfl (sv hk 25)) (sp_same (by kernel_rfl) hl hs hS (show undef = _ from rfl))
   | false =>
    cases b2 with
    | true =>
     exact rs_skip (wanted_undef rfl rfl rfl (sv hk 25)) (sp_same (by kernel_rfl) hl hs hS (show undef = _ from rfl))
    | false =>
     cases b3 with
     | true =>
      exact rs_skip (wanted_undef rfl rfl rfl (sv hk 25)) (sp_same (by kernel_rfl) hl hs hS (show undef = _ from rfl))
     | false =>
      cases b4 with
      | true =>
       exact rs_skip (wanted_undef rfl rfl rfl (sv hk 25)) (sp_same (by kernel_rfl) hl hs hS (show undef = _ from rfl))
      | false =>
       cases b5 with
       | true =>
        have f39 : a.tmps[39]?.getD undef = .int .i64 ↑cols := sf hk 29
        exact rq (.int .i64 (↑cols - 1)) (wanted_yes rfl rfl rfl (sv hk 25)) (by simp [execOp, Act.eval, f39, go_sem, HWC.out]) hl hs hS
       | false =>
        exact rs_skip (wanted_no rfl rfl rfl (sv hk 25) (by simp)) (sp_same (by kernel_rfl) hl hs hS (show undef = _ from rfl))
  apply sc
  ·intro a w' vs σ hS hl hs hk
   cases b1 with
   | true =>
    exact rs_skip (wanted_undef rfl rfl rfl (sv hk 25)) (sp_same (by kernel_rfl) hl hs hS (show undef = _ from rfl))
   | false =>
    cases b2 with
    | true =>
     exact rs_skip (wanted_undef rfl rfl rfl (sv hk 25)) (sp_same (by kernel_rfl) hl hs hS (show undef = _ from rfl))
    | false =>
     cases b3 with
     | true =>
      exact rs_skip (wanted_undef rfl rfl rfl (sv hk 25)) (sp_same (by kernel_rfl) hl hs hS (show undef = _ from rfl))
     | false =>
      cases b4 with
      | true =>
       exact rs_skip (wanted_undef rfl rfl rfl (sv hk 25)) (sp_same (by kernel_rfl) hl hs hS (show undef = _ from rfl))
      | false =>
       cases b5 with
       | true =>
        have f37 : a.tmps[37]?.getD undef = .int .i64 col := sf hk 27
        have f40 : a.tmps[40]?.getD undef = .int .i64 (↑cols - 1) := sf hk 30
        exact rq (.bool b6) (wanted_yes rfl rfl rfl (sv hk 25)) (by simp [execOp, Act.eval, f37, f40, go_sem, H6.out]) hl hs hS
       | false =>
        exact rs_skip (wanted_no rfl rfl rfl (sv hk 25) (by simp)) (sp_same (by kernel_rfl) hl hs hS (show undef = _ from rfl))
  apply sc
  ·intro a w' vs σ hS hl hs hk
   cases b1 with
   | true =>
    exact rs_skip (wanted_no rfl rfl rfl (sv hk 22) (by simp)) (sp_same (by kernel_rfl) hl hs hS (show undef = _ from rfl))
   | false =>
    cases b2 with
    | true =>
     exact rs_skip (wanted_no rfl rfl rfl (sv hk 22) (by simp)) (sp_same (by kernel_rfl) hl hs hS (show undef = _ from rfl))
    | false =>
     cases b3 with
     | true =>
      exact rs_skip (wanted_no rfl rfl rfl (sv hk 22) (by simp)) (sp_same (by kernel_rfl) hl hs hS (show undef = _ from rfl))
     | false =>
      cases b4 with
      | true =>
       exact rs_skip (wanted_no rfl rfl rfl (sv hk 22) (by simp)) (sp_same (by kernel_rfl) hl hs hS (show undef = _ from rfl))
      | false =>
       cases b5 with
       | true =>
        have e35 : a.tmps.getD 35 undef = .bool true := sv hk 25
        have f35 := gd e35
        have e41 : a.tmps.getD 41 undef = .bool b6 := sv hk 31
        have f41 := gd e41
        exact rq (.bool (true && b6)) (wanted_yes rfl rfl rfl (sv hk 22)) (by simp [execOp, Act.eval, e35, f35, e41, f41, go_sem]) hl hs hS
       | false =>
        have e35 : a.tmps.getD 35 undef = .bool false := sv hk 25
        have f35 := gd e35
        have e41 : a.tmps.getD 41 undef = (undef : Value) := sv hk 31
        have f41 := gd e41
        exact rq (.bool (false && b6)) (wanted_yes rfl rfl rfl (sv hk 22)) (by simp [execOp, Act.eval, e35, f35, e41, f41, go_sem]) hl hs hS
  apply sc
  ·intro a w' vs σ hS hl hs hk
   cases b1 with
   | true =>
    cases b2 with
    | true =>
     cases b3 with
     | true =>
      cases b4 with
      | true =>
       have e32 : a.tmps.getD 32 undef = .bool (true || true || true || true) := sv hk 22
       have f32 := gd e32
       have e42 : a.tmps.getD 42 undef = (undef : Value) := sv hk 32
       have f42 := gd e42
       exact rp (.bool (true || true || true || true || (b5 && b6))) (by simp [execOp, Act.eval, e32, f32, e42, f42, go_sem]) hl hs hS
      | false =>
       have e32 : a.tmps.getD 32 undef = .bool (true || true || true || false) := sv hk 22
       have f32 := gd e32
       have e42 : a.tmps.getD 42 undef = (undef : Value) := sv hk 32
       have f42 := gd e42
       exact rp (.bool (true || true || true || false || (b5 && b6))) (by simp [execOp, Act.eval, e32, f32, e42, f42, go_sem]) hl hs hS
     | false =>
      cases b4 with
      | true =>
       have e32 : a.tmps.getD 32 undef = .bool (true || true || false || true) := sv hk 22
       have f32 := gd e32
       have e42 : a.tmps.getD 42 undef = (undef : Value) := sv hk 32
       have f42 := gd e42
       exact rp (.bool (true || true || false || true || (b5 && b6))) (by simp [execOp, Act.eval, e32, f32, e42, f42, go_sem]) hl hs hS
      | false =>
       have e32 : a.tmps.getD 32 undef = .bool (true || true || false || false) := sv hk 22
       have f32 := gd e32
       have e42 : a.tmps.getD 42 undef = (undef : Value) := sv hk 32
       have f42 := gd e42
       exact rp (.bool (true || true || false || false || (b5 && b6))) (by simp [execOp, Act.eval, e32, f32, e42, f42, go_sem]) hl hs hS
    | false =>
     cases b3 with
     | true =>
      cases b4 with
      | true =>
       have e32 : a.tmps.getD 32 undef = .bool (true || false || true || true) := sv hk 22
       have f32 := gd e32
       have e42 : a.tmps.getD 42 undef = (undef : Value) := sv hk 32
       have f42 := gd e42
       exact rp (.bool (true || false || true || true || (b5 && b6))) (by simp [execOp, Act.eval, e32, f32, e42, f42, go_sem]) hl hs hS
      | false =>
       have e32 : a.tmps.getD 32 undef = .bool (true || false || true || false) := sv hk 22
       have f32 := gd e32
       have e42 : a.tmps.getD 42 undef = (undef : Value) := sv hk 32
       have f42 := gd e42
       exact rp (.bool (true || false || true || false || (b5 && b6))) (by simp [execOp, Act.eval, e32, f32, e42, f42, go_sem]) hl hs hS
     | false =>
      cases b4 with
      | true =>
       have e32 : a.tmps.getD 32 undef = .bool (true || false || false || true) := sv hk 22
       have f32 := gd e32
       have e42 : a.tmps.getD 42 undef = (undef : Value) := sv hk 32
       have f42 := gd e42
       exact rp (.bool (true || false || false || true || (b5 && b6))) (by simp [execOp, Act.eval, e32, f32, e42, f42, go_sem]) hl hs hS
      | false =>
       have e32 : a.tmps.getD 32 undef = .bool (true || false || false || false) := sv hk 22
       have f32 := gd e32
       have e42 : a.tmps.getD 42 undef = (undef : Value) := sv hk 32
       have f42 := gd e42
       exact rp (.bool (true || false || false || false || (b5 && b6))) (by simp [execOp, Act.eval, e32, f32, e42, f42, go_sem]) hl hs hS
   | false =>
    cases b2 with
    | true =>
     cases b3 with
     | true =>
      cases b4 with
      | true =>
       have e32 : a.tmps.getD 32 undef = .bool (false || true || true || true) := sv hk 22
       have f32 := gd e32
       have e42 : a.tmps.getD 42 undef = (undef : Value) := sv hk 32
       have f42 := gd e42
       exact rp (.bool (false || true || true || true || (b5 && b6))) (by simp [execOp, Act.eval, e32, f32, e42, f42, go_sem]) hl hs hS
      | false =>
       have e32 : a.tmps.getD 32 undef = .bool (false || true || true || false) := sv hk 22
       have f32 := gd e32
       have e42 : a.tmps.getD 42 undef = (undef : Value) := sv hk 32
       have f42 := gd e42
       exact rp (.bool (false || true || true || false || (b5 && b6))) (by simp [execOp, Act.eval, e32, f32, e42, f42, go_sem]) hl hs hS
     | false =>
      cases b4 with
      | true =>
       have e32 : a.tmps.getD 32 undef = .bool (false || true || false || true) := sv hk 22
       have f32 := gd e32
       have e42 : a.tmps.getD 42 undef = (undef : Value) := sv hk 32
       have f42 := gd e42
       exact rp (.bool (false || true || false || true || (b5 && b6))) (by simp [execOp, Act.eval, e32, f32, e42, f42, go_sem]) hl hs hS
      | false =>
       have e32 : a.tmps.getD 32 undef = .bool (false || true || false || false) := sv hk 22
       have f32 := gd e32
       have e42 : a.tmps.getD 42 undef = (undef : Value) := sv hk 32
       have f42 := gd e42
       exact rp (.bool (false || true || false || false || (b5 && b6))) (by simp [execOp, Act.eval, e32, f32, e42, f42, go_sem]) hl hs hS
    | false =>
     cases b3 with
     | true =>
      cases b4 with
      | true =>
       have e32 : a.tmps.getD 32 undef = .bool (false || false || true || true) := sv hk 22
       have f32 := gd e32
       have e42 : a.tmps.getD 42 undef = (undef : Value) := sv hk 32
       have f42 := gd e42
       exact rp (.bool (false || false || true || true || (b5 && b6))) (by simp [execOp, Act.eval, e32, f32, e42, f42, go_sem]) hl hs hS
      | false =>
       have e32 : a.tmps.getD 32 undef = .bool (false || false || true || false) := sv hk 22
       have f32 := gd e32
       have e42 : a.tmps.getD 42 undef = (undef : Value) := sv hk 32
       have f42 := gd e42
       exact rp (.bool (false || false || true || false || (b5 && b6))) (by simp [execOp, Act.eval, e32, f32, e42, f42, go_sem]) hl hs hS
     | false =>
      cases b4 with
      | true =>
       have e32 : a.tmps.getD 32 undef = .bool (false || false || false || true) := sv hk 22
       have f32 := gd e32
       have e42 : a.tmps.getD 42 undef = (undef : Value) := sv hk 32
       have f42 := gd e42
       exact rp (.bool (false || false || false || true || (b5 && b6))) (by simp [execOp, Act.eval, e32, f32, e42, f42, go_sem]) hl hs hS
      | false =>
       have e32 : a.tmps.getD 32 undef = .bool (false || false || false || false) := sv hk 22
       have f32 := gd e32
       have e42 : a.tmps.getD 42 undef = .bool (b5 && b6) := sv hk 32
       have f42 := gd e42
       exact rp (.bool (false || false || false || false || (b5 && b6))) (by simp [execOp, Act.eval, e32, f32, e42, f42, go_sem]) hl hs hS
  apply sc
  ·intro a w' vs σ hS hl hs hk
   have f43 : a.tmps[43]?.getD undef = .bool (b1 || b2 || b3 || b4 || (b5 && b6)) := sf hk 33
   exact rp (.bool (b1 || b2 || b3 || b4 || (b5 && b6))) (by simp [execOp, Act.eval, f43, go_sem]) hl hs hS
  exact SSteps.nil
 ·intro vs w' hS hv
  have q0 : vs 0 = _ := hv 0 (by decide)
  have q1 : vs 1 = _ := hv 1 (by decide)
  have q2 : vs 2 = _ := hv 2 (by decide)
  have q3 : vs 3 = _ := hv 3 (by decide)
  have q4 : vs 4 = _ := hv 4 (by decide)
  have q5 : vs 5 = _ := hv 5 (by decide)
  have q6 : vs 6 = _ := hv 6 (by decide)
  have q7 : vs 7 = _ := hv 7 (by decide)
  have q8 : vs 8 = _ := hv 8 (by decide)
  have q9 : vs 9 = _ := hv 9 (by decide)
  have q10 : vs 10 = _ := hv 10 (by decide)
  have q11 : vs 11 = _ := hv 11 (by decide)
  have q12 : vs 12 = _ := hv 12 (by decide)
  have q13 : vs 13 = _ := hv 13 (by decide)
  have q14 : vs 14 = _ := hv 14 (by decide)
  have q15 : vs 15 = _ := hv 15 (by decide)
  have q16 : vs 16 = _ := hv 16 (by decide)
  have q17 : vs 17 = _ := hv 17 (by decide)
  have q18 : vs 18 = _ := hv 18 (by decide)
  have q19 : vs 19 = _ := hv 19 (by decide)
  have q20 : vs 20 = _ := hv 20 (by decide)
  have q21 : vs 21 = _ := hv 21 (by decide)
  have q22 : vs 22 = _ := hv 22 (by decide)
  have q23 : vs 23 = _ := hv 23 (by decide)
  have q24 : vs 24 = _ := hv 24 (by decide)
  have q25 : vs 25 = _ := hv 25 (by decide)
  have q26 : vs 26 = _ := hv 26 (by decide)
  have q27 : vs 27 = _ := hv 27 (by decide)
  have q28 : vs 28 = _ := hv 28 (by decide)
  have q29 : vs 29 = _ := hv 29 (by decide)
  have q30 : vs 30 = _ := hv 30 (by decide)
  have q31 : vs 31 = _ := hv 31 (by decide)
  have q32 : vs 32 = _ := hv 32 (by decide)
  have q33 : vs 33 = _ := hv 33 (by decide)
  have q34 : vs 34 = _ := hv 34 (by decide)
  have S2 := Lib.hid hS
  simp only [putL, Act.put, Nat.zero_add, Nat.reduceAdd, List.setIfInBounds_toArray, List.set_cons_succ, List.set_cons_zero, q0, q1, q2, q3, q4, q5, q6, q7, q8, q9, q10, q11, q12, q13, q14, q15, q16, q17, q18, q19, q20, q21, q22, q23, q24, q25, q26, q27, q28, q29, q30, q31, q32, q33, q34]
  clear hS hv q0 q1 q2 q3 q4 q5 q6 q7 q8 q9 q10 q11 q12 q13 q14 q15 q16 q17 q18 q19 q20 q21 q22 q23 q24 q25 q26 q27 q28 q29 q30 q31 q32 q33 q34
  have HB := HE
  obtain ⟨B, hB⟩ : ∃ B, (b1 || b2 || b3 || b4 || (b5 && b6)) = B := ⟨_, rfl⟩
  rw [hB] at HE ⊢
  cases B with
  | true =>
   go_wp2_with fail
   go_ret
   exact ⟨by rw [HE.out]; rfl, S2.out.tail⟩
  | false =>
   go_wp2_with fail
   go_ret
   exact ⟨by rw [HE.out]; rfl, S2.out.tail⟩
end
end Go.Proofs.YtppijfjigcoifaaDoor

namespace Go.Proofs.YtppijfjigcoifaaDoor
open Go.RowKit

def wrapB (cols : Nat) (col : Int) (pend auto : Bool) (n : Int) : Bool := auto && (pend || (decide (n = 2) && decide (1 < cols) && decide (col = (cols : Int) - 1)))
section
variable {w0 w : World} {os : List Ob} {k p cols : Nat} {L : List Ln}
set_option maxHeartbeats 4000000 in
theorem prwraps_any (row col : Int) (pend auto : Bool) (n : Int) (hS : Objs w0 w os) (hk : os[k]? = some (.grid p 58 cols L)) (hc : 0 < cols) (hcm : cols ≤ 1000) :
  Calls Tryd.prog 77 #[.pointer (some ⟨p, 0, none⟩), .agg #[.int .i64 row, .int .i64 col, .bool pend], .int .i64 n, .bool auto] w fun e w' => e = .returned (.bool (wrapB cols col pend auto n)) ∧ Objs w0 w' os := by
 have S0 := Lib.hid hS
 have HK := Lib.hid hk
 have HWC := Lib.hid (show IntKind.i64.wrap ((cols : Int) - 1) = (cols : Int) - 1 from IntWalk.i64_in _ (by omega))
 clear hS hk
 cases auto with
 | false =>
  have HV := Lib.hid (show wrapB cols col pend false n = false by simp [wrapB])
  go_enter Tryd.func77, Tryd.ntmps77
  go_upto_region 1 with (fail)
  refine at_objsC S0.out.alloc1 (fun W hW => ?_)
  generalize w.heap.size = bc at hW ⊢
  have S1 := Lib.hid hW
  clear hW S0
  go_wp2_with fail
  refine (Cols_any S1.out (k := k + 1) HK.out).mono ?_
  rintro e w1 ⟨rfl, hS⟩
  have S2 := Lib.hid hS
  obtain ⟨hxc, hfc, hzc⟩ := (hS.box (k := 0) rfl).facts
  clear hS S1
  have hwc := HWC.out
  go_wp2_with fail
  go_ret
  exact ⟨by rw [HV.out]; rfl, S2.out.tail⟩
 | true =>
 cases pend with
 | true =>
  have HV := Lib.hid (show wrapB cols col true true n = true by simp [wrapB])
  go_enter Tryd.func77, Tryd.ntmps77
  go_upto_region 1 with (fail)
  refine at_objsC S0.out.alloc1 (fun W hW => ?_)
  generalize w.heap.size = bc at hW ⊢
  have S1 := Lib.hid hW
  clear hW S0
  go_wp2_with fail
  refine (Cols_any S1.out (k := k + 1) HK.out).mono ?_
  rintro e w1 ⟨rfl, hS⟩
  have S2 := Lib.hid hS
  obtain ⟨hxc, hfc, hzc⟩ := (hS.box (k := 0) rfl).facts
  clear hS S1
  have hwc := HWC.out
  go_wp2_with fail
  go_ret
  exact ⟨by rw [HV.out]; rfl, S2.out.tail⟩
 | false =>
 by_cases h2 : n = 2
 case neg =>
  have hb2 := beq_no h2
  have HV := Lib.hid (show wrapB cols col false true n = false by simp [wrapB, h2])
  clear h2
  go_enter Tryd.func77, Tryd.ntmps77
  go_upto_region 1 with (fail)
  refine at_objsC S0.out.alloc1 (fun W hW => ?_)
  generalize w.heap.size = bc at hW ⊢
  have S1 := Lib.hid hW
  clear hW S0
  go_wp2_with fail
  refine (Cols_any S1.out (k := k + 1) HK.out).mono ?_
  rintro e w1 ⟨rfl, hS⟩
  have S2 := Lib.hid hS
  obtain ⟨hxc, hfc, hzc⟩ := (hS.box (k := 0) rfl).facts
  clear hS S1
  have hwc := HWC.out
  go_wp2_with fail
  go_ret
  exact ⟨by rw [HV.out]; rfl, S2.out.tail⟩
 subst h2
 by_cases h3 : 1 < cols
 case neg =>
  have HV := Lib.hid (show wrapB cols col false true 2 = false by simp [wrapB, h3])
  have d3 : decide ((0 : Int) < (cols : Int) - 1) = false := decide_eq_false (by omega)
  have d4 : decide ((1 : Int) < (cols : Int)) = false := decide_eq_false (by omega)
  have d5 : decide (1 < cols) = false := decide_eq_false (by omega)
  go_enter Tryd.func77, Tryd.ntmps77
  go_upto_region 1 with (fail)
  refine at_objsC S0.out.alloc1 (fun W hW => ?_)
  generalize w.heap.size = bc at hW ⊢
  have S1 := Lib.hid hW
  clear hW S0
  go_wp2_with fail
  refine (Cols_any S1.out (k := k + 1) HK.out).mono ?_
  rintro e w1 ⟨rfl, hS⟩
  have S2 := Lib.hid hS
  obtain ⟨hxc, hfc, hzc⟩ := (hS.box (k := 0) rfl).facts
  clear hS S1
  have hwc := HWC.out
  go_wp2_with fail
  go_ret
  exact ⟨by rw [HV.out]; rfl, S2.out.tail⟩
 by_cases h4 : col = (cols : Int) - 1
 case neg =>
  have hb4 := beq_no h4
  have HV := Lib.hid (show wrapB cols col false true 2 = false by simp [wrapB, h4])
  clear h4
  have d3 : decide ((0 : Int) < (cols : Int) - 1) = true := decide_eq_true (by omega)
  have d4 : decide ((1 : Int) < (cols : Int)) = true := decide_eq_true (by omega)
  have d5 : decide (1 < cols) = true := decide_eq_true (by omega)
  go_enter Tryd.func77, Tryd.ntmps77
  go_upto_region 1 with (fail)
  refine at_objsC S0.out.alloc1 (fun W hW => ?_)
  generalize w.heap.size = bc at hW ⊢
  have S1 := Lib.hid hW
  clear hW S0
  go_wp2_with fail
  refine (Cols_any S1.out (k := k + 1) HK.out).mono ?_
  rintro e w1 ⟨rfl, hS⟩
  have S2 := Lib.hid hS
  obtain ⟨hxc, hfc, hzc⟩ := (hS.box (k := 0) rfl).facts
  clear hS S1
  have hwc := HWC.out
  go_wp2_with fail
  go_ret
  exact ⟨by rw [HV.out]; rfl, S2.out.tail⟩
 have hb4 := beq_yes h4
 have HV := Lib.hid (show wrapB cols col false true 2 = true by simp [wrapB, h3, h4])
 clear h4
 have d3 : decide ((0 : Int) < (cols : Int) - 1) = true := decide_eq_true (by omega)
 have d4 : decide ((1 : Int) < (cols : Int)) = true := decide_eq_true (by omega)
 have d5 : decide (1 < cols) = true := decide_eq_true (by omega)
 go_enter Tryd.func77, Tryd.ntmps77
 go_upto_region 1 with (fail)
 refine at_objsC S0.out.alloc1 (fun W hW => ?_)
 generalize w.heap.size = bc at hW ⊢
 have S1 := Lib.hid hW
 clear hW S0
 go_wp2_with fail
 refine (Cols_any S1.out (k := k + 1) HK.out).mono ?_
 rintro e w1 ⟨rfl, hS⟩
 have S2 := Lib.hid hS
 obtain ⟨hxc, hfc, hzc⟩ := (hS.box (k := 0) rfl).facts
 clear hS S1
 have hwc := HWC.out
 go_wp2_with fail
 go_ret
 exact ⟨by rw [HV.out]; rfl, S2.out.tail⟩
set_option maxHeartbeats 4000000 in
theorem prWraps_yes (row col : Int) (pend auto : Bool) (r : Int) (hT : Tabs w0) (hS : Objs w0 w os) (hk : os[k]? = some (.grid p 58 cols L)) (hc : 0 < cols) (hcm : cols ≤ 1000) (hL : 0 < L.length) (hin : inG row col pend L.length cols = true) :
  Calls Tryd.prog 37 #[.pointer (some ⟨p, 0, none⟩), .agg #[.int .i64 row, .int .i64 col, .bool pend], .int .i32 r, .bool auto] w fun e w' => e = .returned (if wOf r < 1 then .tuple #[.bool false, .int .i64 2] else .tuple #[.bool (wrapB cols col pend auto (wOf r)), .int .i64 0]) ∧ Objs w0 w' os := by
 have S0 := Lib.hid hS
 have HK := Lib.hid hk
 have HT := Lib.hid hT
 have HE := Lib.hid (show chkE row col pend L.length cols = 0 by unfold chkE; rw [hin]; rfl)
 clear hS hk hT
 obtain ⟨n, hn⟩ : ∃ n, wOf r = n := ⟨_, rfl⟩
 have HW := Lib.hid hn
 rw [hn]
 clear hn
 by_cases h1 : n < 1
 ·rw [if_pos h1]
  go_enter Tryd.func37, Tryd.ntmps37
  go_upto_region 1 with (fail)
  refine at_objsC S0.out.alloc1 (fun W hW => ?_)
  generalize w.heap.size = bc at hW ⊢
  obtain ⟨hxc, hfc, hzc⟩ := (hW.box (k := 0) rfl).facts
  have S1 := Lib.hid hW
  clear hW S0
  go_wp2_with fail
  have hcon := prcheck_any row col pend S1.out (k := k + 1) HK.out hc hcm hL
  rw [HE.out] at hcon
  refine hcon.mono ?_
  rintro e w1 ⟨rfl, hS⟩
  have S2 := Lib.hid hS
  clear hS S1 hcon hxc hfc hzc
  go_wp2_with fail
  refine (width_is HW.out _ (S2.out.tabs HT.out)).mono ?_
  rintro e w2 ⟨rfl, hb⟩
  have S3 := Lib.hid (S2.out.bel hb)
  clear hb S2
  go_wp2_with fail
  go_ret2
  exact ⟨rfl, S3.out.tail⟩
 ·rw [if_neg h1]
  go_enter Tryd.func37, Tryd.ntmps37
  go_upto_region 1 with (fail)
  refine at_objsC S0.out.alloc1 (fun W hW => ?_)
  generalize w.heap.size = bc at hW ⊢
  obtain ⟨hxc, hfc, hzc⟩ := (hW.box (k := 0) rfl).facts
  have S1 := Lib.hid hW
  clear hW S0
  go_wp2_with fail
  have hcon := prcheck_any row col pend S1.out (k := k + 1) HK.out hc hcm hL
  rw [HE.out] at hcon
  refine hcon.mono ?_
  rintro e w1 ⟨rfl, hS⟩
  have S2 := Lib.hid hS
  clear hS S1 hcon hxc hfc hzc
  go_wp2_with fail
  refine (width_is HW.out _ (S2.out.tabs HT.out)).mono ?_
  rintro e w2 ⟨rfl, hb⟩
  have S3 := Lib.hid (S2.out.bel hb)
  clear hb S2
  obtain ⟨hxc, hfc, hzc⟩ := (S3.out.box (k := 0) rfl).facts
  go_wp2_with fail
  refine (prwraps_any row col pend auto n S3.out (k := k + 1) HK.out hc hcm).mono ?_
  rintro e w3 ⟨rfl, hS⟩
  have S4 := Lib.hid hS
  clear hS S3 hxc hfc hzc
  go_wp2_with fail
  go_ret2
  exact ⟨rfl, S4.out.tail⟩
end
end Go.Proofs.YtppijfjigcoifaaDoor

namespace Go.Proofs.YtppijfjigcoifaaDoor
open Go.RowKit

theorem Blk.width4 {w : World} {g : Nat} {t : TypeId} {c : Cell} (h : Blk w g t (cv c)) : w.cell? ⟨g, 4, none⟩ = some (.int .i64 c.width) := (h.cell 4).trans rfl
theorem pcursor_size : (Tryd.prog.info? 48).map (·.size) = some 3 := by kernel_rfl
theorem Objs.setCur {w0 w : World} {os : List Ob} (h : Objs w0 w os) (k : Nat) {g : Nat} {t : TypeId} {x y z : Value} {r c : Int} {b : Bool} (hk : os[k]? = some (.box g t #[x, y, z])) : Objs w0 (((w.setCell ⟨g, 0, none⟩ (.int .i64 r)).setCell ⟨g, 1, none⟩ (.int .i64 c)).setCell ⟨g, 2, none⟩ (.bool b)) (os.set k (.box g t #[.int .i64 r, .int .i64 c, .bool b])) := by
 have hkl := (List.getElem?_eq_some_iff.1 hk).1
 have h1 := h.setBox k (i := 0) (u := .int .i64 r) hk
 have h2 := h1.setBox k (i := 1) (u := .int .i64 c) (g := g) (t := t) (cs := #[.int .i64 r, y, z]) (by rw [List.getElem?_set_self hkl]; simp)
 have h3 := h2.setBox k (i := 2) (u := .bool b) (g := g) (t := t) (cs := #[.int .i64 r, .int .i64 c, z]) (by rw [List.getElem?_set_self (by simpa using hkl)]; simp)
 simpa using h3
theorem tg4 {σ os : List Ob} {a b c d o : Ob} {k : Nat} (hl : σ.length = [a].length) (hk : os[k]? = some o) : (σ ++ (b :: c :: d :: os))[k + 4]? = some o := by
 match σ, hl with
 | [x], _ => exact hk
theorem tg4b {σ os : List Ob} {a b c d o : Ob} {k : Nat} (hl : σ.length = [a, b, c, d].length) (hk : os[k]? = some o) : (σ ++ os)[k + 4]? = some o := by
 match σ, hl with
 | [x, y, z, v], _ => exact hk
theorem of_ok {r : Int} {q : Pen} (hw : 1 ≤ wOf r) (hq : q.ok = true) : (⟨r, 0, 0, 0, wOf r, q⟩ : Cell).ok = true := by
 have hr : ¬ r = 0 := fun h => by rw [h, wOf_zero] at hw; omega
 have h0 : (0 : Int) < wOf r := by omega
 simp [Cell.ok, hq, hr, h0, Cell.marksOk, Cell.mOk, Cell.mark]
section
variable {w0 w : World} {os : List Ob} {k p cols : Nat} {L : List Ln}
set_option maxHeartbeats 4000000 in
theorem Print_wrap (row col : Int) (pend auto ins : Bool) (r : Int) (q : Pen) (hT : Tabs w0) (hS : Objs w0 w os) (hk : os[k]? = some (.grid p 58 cols L)) (hc : 0 < cols) (hcm : cols ≤ 1000) (hL : 0 < L.length) (hin : inG row col pend L.length cols = true) (hw : 1 ≤ wOf r) (hq : q.ok = true) (hwr : wrapB cols col pend auto (wOf r) = true) :
  Calls Tryd.prog 38 #[.pointer (some ⟨p, 0, none⟩), .agg #[.int .i64 row, .int .i64 col, .bool pend], .int .i32 r, .agg (pv q), .bool auto, .bool ins] w fun e w' => e = .returned (.tuple #[.agg #[.int .i64 0, .int .i64 0, .bool false], .int .i64 8]) ∧ Objs w0 w' os := by
 have S0 := Lib.hid hS
 have HK := Lib.hid hk
 clear hS hk
 have HT := Lib.hid hT
 have HE := Lib.hid (show chkE row col pend L.length cols = 0 by unfold chkE; rw [hin]; rfl)
 have HQB := Lib.hid (show (blank q).ok = true by rw [ok_blank]; exact hq)
 obtain ⟨n, hn⟩ : ∃ n, wOf r = n := ⟨_, rfl⟩
 have HW := Lib.hid hn
 rw [hn] at hw hwr
 have HWR := Lib.hid hwr
 clear hin hT hn hq hwr
 go_enter Tryd.func38, Tryd.ntmps38
 go_upto_region 1 with (fail)
 refine at_objsC (S0.out.alloc3 (c1 := #[.int .i64 row, .int .i64 col, .bool pend]) (t1 := 48) (c2 := pv q) (t2 := 54) (c3 := #[.int .i64 0, .int .i64 0, .bool false]) (t3 := 48)) (fun W hW => ?_)
 generalize w.heap.size + 1 + 1 = b12 at hW ⊢
 generalize w.heap.size + 1 = b9 at hW ⊢
 generalize w.heap.size = b7 at hW ⊢
 have S1 := Lib.hid hW
 clear hW S0
 obtain ⟨hx7, hf7, hz7⟩ := (S1.out.box (k := 2) rfl).facts
 go_wp2_with fail
 clear hx7 hf7 hz7
 have hcon := prcheck_any row col pend S1.out (k := k + 3) HK.out hc hcm hL
 rw [HE.out] at hcon
 refine hcon.mono ?_
 rintro e w1 ⟨rfl, hS⟩
 have S2 := Lib.hid hS
 clear hS hcon S1
 go_wp2_with fail
 refine (width_is HW.out _ (S2.out.tabs HT.out)).mono ?_
 rintro e w2 ⟨rfl, hb⟩
 have S3 := Lib.hid (S2.out.bel hb)
 clear hb S2
 have hp9 := (S3.out.box (k := 1) rfl).penAt
 have hp9z := (S3.out.box (k := 1) rfl).lt
 obtain ⟨hx7, hf7, hz7⟩ := (S3.out.box (k := 2) rfl).facts
 go_wp2_with fail
 refine (cellBlank_any q _).mono ?_
 rintro e w3 ⟨rfl, hb⟩
 have S4 := Lib.hid (S3.out.bel hb)
 clear hb S3
 go_wp2_with fail
 refine (valid_yes HQB.out _ (S4.out.tabs HT.out)).mono ?_
 rintro e w4 ⟨rfl, hb⟩
 have S5 := Lib.hid (S4.out.bel hb)
 clear hb S4
 clear hp9 hp9z hx7 hf7 hz7
 have hp9 := (S5.out.box (k := 1) rfl).penAt
 have hp9z := (S5.out.box (k := 1) rfl).lt
 obtain ⟨hx7, hf7, hz7⟩ := (S5.out.box (k := 2) rfl).facts
 go_wp2_with fail
 clear hp9 hp9z hx7 hf7 hz7
 have hcon := prwraps_any row col pend auto n S5.out (k := k + 3) HK.out hc hcm
 rw [HWR.out] at hcon
 refine hcon.mono ?_
 rintro e w5 ⟨rfl, hS⟩
 have S6 := Lib.hid hS
 clear hS hcon S5
 obtain ⟨hx12, hf12, hz12⟩ := (S6.out.box (k := 0) rfl).facts
 have SF := Lib.hid (S6.out.setCur 0 (r := 0) (c := 0) (b := false) rfl)
 go_wp2_with fail
 refine bodyPost_ret (results_ct Tryd.results38 _ _ b12 _ _ rfl (SF.out.box (k := 0) rfl) Tryd.underlying48 rfl pcursor_size) rfl ?_
 exact ⟨rfl, SF.out.tail.tail.tail⟩
set_option maxRecDepth 100000 in
set_option maxHeartbeats 16000000 in
theorem Print_yes {i j : Nat} (pend auto ins : Bool) (r : Int) (q : Pen) (hT : Tabs w0) (hS : Objs w0 w os) (hk : os[k]? = some (.grid p 58 cols L)) (hc : 0 < cols) (hcm : cols ≤ 1000) (hL : 0 < L.length) (hR : Rect cols L) (hin : inG i j pend L.length cols = true) (hw : 1 ≤ wOf r) (hq : q.ok = true) (hwr : wrapB cols j pend auto (wOf r) = false) (x0 : Cell) (hx0 : x0 = ⟨r, 0, 0, 0, wOf r, q⟩) :
  Calls Tryd.prog 38 #[.pointer (some ⟨p, 0, none⟩), .agg #[.int .i64 ↑i, .int .i64 ↑j, .bool pend], .int .i32 r, .agg (pv q), .bool auto, .bool ins] w fun e w' => e = .returned (.tuple #[.agg #[.int .i64 ↑i, .int .i64 ↑(prCol cols (prAt cols j (prCell cols x0)) (prCell cols x0)), .bool (prPend cols (prAt cols j (prCell cols x0)) (prCell cols x0) auto)], .int .i64 0]) ∧ Objs w0 w' (os.set k (.grid p 58 cols (printL i j cols x0 ins L))) := by
 have S0 := Lib.hid hS
 have HK := Lib.hid hk
 clear hS hk
 have HT := Lib.hid hT
 have HR := Lib.hid hR
 have HE := Lib.hid (show chkE i j pend L.length cols = 0 by unfold chkE; rw [hin]; rfl)
 have HQ := Lib.hid hq
 have HQB := Lib.hid (show (blank q).ok = true by rw [ok_blank]; exact hq)
 have hing := ingrid_iff.1 hin
 have hi : i < L.length := by omega
 have hj : j < cols := by omega
 have hw12 : x0.width = 1 ∨ x0.width = 2 := by rw [hx0]; show wOf r = 1 ∨ wOf r = 2; rcases wOf_cases r with h | h | h | h <;> omega
 have HXK := Lib.hid (show x0.ok = true by rw [hx0]; exact of_ok hw hq)
 obtain ⟨l, HOF, HX0⟩ : ∃ l, Hid (ofCells r q = (l, 0)) ∧ Hid (l[0]? = some x0) := by
  rw [hx0]
  unfold ofCells
  rw [if_neg (by rw [hq]; simp; omega)]
  by_cases h2 : wOf r = 2
  ·rw [if_pos h2, h2]; exact ⟨_, Lib.hid rfl, Lib.hid rfl⟩
  ·rw [if_neg h2, show wOf r = 1 by rcases wOf_cases r with h | h | h | h <;> omega]; exact ⟨_, Lib.hid rfl, Lib.hid rfl⟩
 obtain ⟨n, hn⟩ : ∃ n, wOf r = n := ⟨_, rfl⟩
 have HW := Lib.hid hn
 have HX00 := Lib.hid hx0
 rw [hn] at hw hwr
 have HWR := Lib.hid hwr
 have HWC := Lib.hid (show IntKind.i64.wrap ((cols : Int) - 1) = (cols : Int) - 1 from IntWalk.i64_in _ (by omega))
 obtain ⟨bw, hbw⟩ : ∃ bw, decide ((cols : Int) < x0.width) = bw := ⟨_, rfl⟩
 have HBW := Lib.hid hbw
 clear hin hT hR hn hq hwr hx0 hing hbw
 go_enter Tryd.func38, Tryd.ntmps38
 go_upto_region 1 with (fail)
 refine at_objsC (S0.out.alloc3 (c1 := #[.int .i64 ↑i, .int .i64 ↑j, .bool pend]) (t1 := 48) (c2 := pv q) (t2 := 54) (c3 := #[.int .i64 0, .int .i64 0, .bool false]) (t3 := 48)) (fun W hW => ?_)
 generalize w.heap.size + 1 + 1 = b12 at hW ⊢
 generalize w.heap.size + 1 = b9 at hW ⊢
 generalize w.heap.size = b7 at hW ⊢
 have S1 := Lib.hid hW
 clear hW S0
 obtain ⟨hx7, hf7, hz7⟩ := (S1.out.box (k := 2) rfl).facts
 go_wp2_with fail
 clear hx7 hf7 hz7
 have hcon := prcheck_any ↑i ↑j pend S1.out (k := k + 3) HK.out hc hcm hL
 rw [HE.out] at hcon
 refine hcon.mono ?_
 rintro e w1 ⟨rfl, hS⟩
 have S2 := Lib.hid hS
 clear hS hcon S1
 go_wp2_with fail
 refine (width_is HW.out _ (S2.out.tabs HT.out)).mono ?_
 rintro e w2 ⟨rfl, hb⟩
 have S3 := Lib.hid (S2.out.bel hb)
 clear hb S2
 have hp9 := (S3.out.box (k := 1) rfl).penAt
 have hp9z := (S3.out.box (k := 1) rfl).lt
 obtain ⟨hx7, hf7, hz7⟩ := (S3.out.box (k := 2) rfl).facts
 go_wp2_with fail
 refine (cellBlank_any q _).mono ?_
 rintro e w3 ⟨rfl, hb⟩
 have S4 := Lib.hid (S3.out.bel hb)
 clear hb S3
 go_wp2_with fail
 refine (valid_yes HQB.out _ (S4.out.tabs HT.out)).mono ?_
 rintro e w4 ⟨rfl, hb⟩
 have S5 := Lib.hid (S4.out.bel hb)
 clear hb S4
 clear hp9 hp9z hx7 hf7 hz7
 have hp9 := (S5.out.box (k := 1) rfl).penAt
 have hp9z := (S5.out.box (k := 1) rfl).lt
 obtain ⟨hx7, hf7, hz7⟩ := (S5.out.box (k := 2) rfl).facts
 go_wp2_with fail
 clear hp9 hp9z hx7 hf7 hz7
 have hcon := prwraps_any ↑i ↑j pend auto n S5.out (k := k + 3) HK.out hc hcm
 rw [HWR.out] at hcon
 refine hcon.mono ?_
 rintro e w5 ⟨rfl, hS⟩
 have S6 := Lib.hid hS
 clear hS hcon S5
 have hp9 := (S6.out.box (k := 1) rfl).penAt
 have hp9z := (S6.out.box (k := 1) rfl).lt
 obtain ⟨hx7, hf7, hz7⟩ := (S6.out.box (k := 2) rfl).facts
 go_wp2_with fail
 clear hp9 hp9z hx7 hf7 hz7
 have hcon := cellOf_any r q _ (S6.out.tabs HT.out)
 rw [HOF.out] at hcon
 refine hcon.mono ?_
 rintro e w6 ⟨vl, rfl, ho, hb⟩
 have hS := S6.out.newCells hb ho
 obtain ⟨gl, cl, rfl, -, -, -⟩ := hS.ownAt (k := 0) (j := 0) rfl HX0.out
 have S7 := Lib.hid hS
 have hl0 : 0 < l.length := (List.getElem?_eq_some_iff.1 HX0.out).1
 clear hS ho hb hcon S6
 go_upto_region 12 with (fail)
 refine wp_region_stage (w0 := w0) (os := os) (by kernel_rfl) (by kernel_rfl) (by kernel_rfl) [(0, 5, [5], fun vs => .box (blkOf (vs 5)) 71 (cv cell0)), (0, 6, [5], fun vs => .box (blkOf (vs 5)) 71 (cv x0))] [[], [], [1], [], [4], [0], [0], []] [.none, .cells (.slice (some ⟨gl, 0, none⟩) l.length cl) l, .box b12 48 #[.int .i64 0, .int .i64 0, .bool false], .box b9 54 (pv q), .box b7 48 #[.int .i64 ↑i, .int .i64 ↑j, .bool pend]] (fun opn u => match opn with | 0 => u = .slice (some ⟨gl, 0, none⟩) l.length cl | 1 => u = pt gl 0 | 2 => u = .agg (cv x0) | 3 => u = pt b7 1 | 4 => u = .int .i64 ↑j | 5 => ∃ g, u = pt g 0 | 6 => True | 7 => u = .int .i64 ↑j | _ => True) (fun vs => [.box (blkOf (vs 5)) 71 (cv x0), .cells (.slice (some ⟨gl, 0, none⟩) l.length cl) l, .box b12 48 #[.int .i64 0, .int .i64 0, .bool false], .box b9 54 (pv q), .box b7 48 #[.int .i64 ↑i, .int .i64 ↑j, .bool pend]]) (by kernel_rfl) (fun vs => by rfl) S7.out.pad ?_ ?_
 ·apply sc
  ·intro a w' vs σ hS hl hs hk
   have f16 : a.tmps[16]?.getD undef = .slice (some ⟨gl, 0, none⟩) l.length cl := sof hk
   exact rp (.slice (some ⟨gl, 0, none⟩) l.length cl) (by simp [execOp, Act.eval, f16, go_sem]) hl hs hS
  apply sc
  ·intro a w' vs σ hS hl hs hk
   have f56 : a.tmps[56]?.getD undef = .slice (some ⟨gl, 0, none⟩) l.length cl := sf hk 0
   exact rp (pt gl 0) (by simp [execOp, Act.eval, f56, go_sem, hl0]) hl hs hS
  apply sc
  ·intro a w' vs σ hS hl hs hk
   have f57 : a.tmps[57]?.getD undef = .pointer (some ⟨gl, 0, none⟩) := sf hk 1
   have hx : cellAt w' gl 0 = some x0 := by have := (cells_facts hS (sg (hs 1 (by decide))) (i := 0) (c := x0) HX0.out).2.2.1; simpa using this
   exact rp (.agg (cv x0)) (by simp [execOp, Act.eval, f57, go_sem, hx]) hl hs hS
  apply sc
  ·intro a w' vs σ hS hl hs hk
   have f7 : a.tmps[7]?.getD undef = .pointer (some ⟨b7, 0, none⟩) := sof hk
   exact rp (pt b7 1) (by simp [execOp, Act.eval, f7, go_sem]) hl hs hS
  apply sc
  ·intro a w' vs σ hS hl hs hk
   have f59 : a.tmps[59]?.getD undef = .pointer (some ⟨b7, 1, none⟩) := sf hk 3
   have hx := (hS.box (sg (hs 4 (by decide)))).cell
   exact rp (.int .i64 ↑j) (by simp [execOp, Act.eval, f59, go_sem, hx]) hl hs hS
  apply sc
  ·intro a w' vs σ hS hl hs hk
   have h1 : σ[0]? = some .none := hs 0 (by decide)
   exact rs_run (v' := .pointer (some ⟨w'.heap.size, 0, none⟩)) (w' := w'.alloc (.cells (cv cell0) 71)) (wanted_none rfl) (by first | (simp [execOp, go_sem]; done) | (simp [execOp, go_sem]; rfl) | rfl) (sp_set 0 (.box w'.heap.size 71 (cv cell0)) (by kernel_rfl) (by simp) (by decide) hl hs (by rfl) (hS.alloc1.place (sg h1)) ⟨_, rfl⟩)
  apply sc
  ·intro a w' vs σ hS hl hs hk
   have e18 : a.tmps.getD 18 undef = vs 5 := sk_val hk 5 (by kernel_rfl) rfl rfl
   have p18 : (fun u : Value => ∃ g, u = .pointer (some ⟨g, 0, none⟩)) (vs 5) := (hk.1 5 (by kernel_rfl)).1
   have f18 := gd e18
   have f58 : a.tmps[58]?.getD undef = .agg (cv x0) := sf hk 2
   obtain ⟨g9, q9⟩ := p18
   have h1 : σ[0]? = some (.box (blkOf (vs 5)) 71 (cv cell0)) := hs 0 (by decide)
   rw [q9, show blkOf (.pointer (some ⟨g9, 0, none⟩)) = g9 from rfl] at h1
   have hst := store_cv_row w' g9 (cv cell0) x0 (hS.box (sg h1)) (cv_size _)
   exact rstep_store (w2 := w'.setRow g9 (cv x0)) (wanted_none rfl) rfl (by simp [execOp, Act.eval, e18, f18, f58, q9, hst, go_sem]) (sp_set 0 (.box g9 71 (cv x0)) (by kernel_rfl) (by simp) (by decide) hl hs (by show Ob.box (blkOf (vs 5)) 71 (cv x0) = _; rw [q9]; rfl) (hS.rowBox 0 (ds := cv x0) (sg h1)) trivial) trivial
  apply sc
  ·intro a w' vs σ hS hl hs hk
   have f60 : a.tmps[60]?.getD undef = .int .i64 ↑j := sf hk 4
   exact rp (.int .i64 ↑j) (by simp [execOp, Act.eval, f60, go_sem]) hl hs hS
  exact SSteps.nil
 ·intro vs w' hS hv
  have q0 : vs 0 = _ := hv 0 (by decide)
  have q1 : vs 1 = _ := hv 1 (by decide)
  have q2 : vs 2 = _ := hv 2 (by decide)
  have q3 : vs 3 = _ := hv 3 (by decide)
  have q4 : vs 4 = _ := hv 4 (by decide)
  have q7 : vs 7 = _ := hv 7 (by decide)
  obtain ⟨b18, q5⟩ := (show ∃ g, vs 5 = .pointer (some ⟨g, 0, none⟩) from hv 5 (by decide))
  rw [q5, show blkOf (.pointer (some ⟨b18, 0, none⟩)) = b18 from rfl] at hS
  have S2 := Lib.hid hS
  simp only [putL, Act.put, Nat.zero_add, Nat.reduceAdd, List.setIfInBounds_toArray, List.set_cons_succ, List.set_cons_zero, q0, q1, q2, q3, q4, q7]
  clear hS hv q0 q1 q2 q3 q4 q7
  simp only [q5]
  have S9 := Lib.hid (show Objs w0 _ (.box b18 71 (cv x0) :: .box b12 48 #[.int .i64 0, .int .i64 0, .bool false] :: .box b9 54 (pv q) :: .box b7 48 #[.int .i64 ↑i, .int .i64 ↑j, .bool pend] :: os) from (Objs.pick (σ := [_, _, _, _, _]) (os := os) S2.out [some 0, some 2, some 3, some 4] (by decide) rfl))
  clear S2 S7 q5
  go_upto_region 13 with (fail)
  refine wp_region_stage (w0 := w0) (os := (.box b12 48 #[.int .i64 0, .int .i64 0, .bool false] :: .box b9 54 (pv q) :: .box b7 48 #[.int .i64 ↑i, .int .i64 ↑j, .bool pend] :: os)) (by kernel_rfl) (by kernel_rfl) (by kernel_rfl) [] [[], [0], [], [], []] [.box b18 71 (cv x0)] (fun opn u => match opn with | 0 => u = pt b18 4 | 1 => u = .int .i64 x0.width | 2 => u = pt p 0 | 3 => u = .int .i64 ↑cols | 4 => u = .bool bw | _ => True) (fun vs => [.box b18 71 (cv x0)]) (by kernel_rfl) (fun vs => by rfl) S9.out ?_ ?_
  ·apply sc
   ·intro a w' vs σ hS hl hs hk
    have f18 : a.tmps[18]?.getD undef = .pointer (some ⟨b18, 0, none⟩) := sof hk
    exact rp (pt b18 4) (by simp [execOp, Act.eval, f18, go_sem]) hl hs hS
   apply sc
   ·intro a w' vs σ hS hl hs hk
    have f61 : a.tmps[61]?.getD undef = .pointer (some ⟨b18, 4, none⟩) := sf hk 0
    have hx := (hS.box (sg (hs 0 (by decide)))).cell
    exact rp (.int .i64 x0.width) (by simp [execOp, Act.eval, f61, go_sem, hx]) hl hs hS
   apply sc
   ·intro a w' vs σ hS hl hs hk
    have f0 : a.tmps[0]?.getD undef = .pointer (some ⟨p, 0, none⟩) := sof hk
    exact rp (pt p 0) (by simp [execOp, Act.eval, f0, go_sem]) hl hs hS
   apply sc
   ·intro a w' vs σ hS hl hs hk
    have e63 : a.tmps.getD 63 undef = .pointer (some ⟨p, 0, none⟩) := sv hk 2
    exact ro_call (f := 18) (wanted_none rfl) rfl (by simp only [List.map_toArray, List.map_cons, List.map_nil, Act.eval, e63] <;> rfl) (fun _ _ => by kernel_rfl) ((Cols_any hS (k := k + 4) (by simpa using tg4 hl HK.out)).mono fun e w2 ⟨h1, h2⟩ => ⟨_, h1, sp_same (by kernel_rfl) hl hs h2 rfl, trivial⟩)
   apply sc
   ·intro a w' vs σ hS hl hs hk
    have f62 : a.tmps[62]?.getD undef = .int .i64 x0.width := sf hk 1
    have f64 : a.tmps[64]?.getD undef = .int .i64 ↑cols := sf hk 3
    exact rp (.bool bw) (by simp [execOp, Act.eval, f62, f64, go_sem, HBW.out]) hl hs hS
   exact SSteps.nil
  ·intro vs w' hS hv
   have q0 : vs 0 = _ := hv 0 (by decide)
   have q1 : vs 1 = _ := hv 1 (by decide)
   have q2 : vs 2 = _ := hv 2 (by decide)
   have q3 : vs 3 = _ := hv 3 (by decide)
   have q4 : vs 4 = _ := hv 4 (by decide)
   have S2 := Lib.hid hS
   simp only [putL, Act.put, Nat.zero_add, Nat.reduceAdd, List.setIfInBounds_toArray, List.set_cons_succ, List.set_cons_zero, q0, q1, q2, q3, q4]
   clear hS hv q0 q1 q2 q3 q4
   have S10 := S2
   clear S2 S9
   obtain ⟨x, hx⟩ : ∃ x, prCell cols x0 = x := ⟨_, rfl⟩
   obtain ⟨hxw, hxc⟩ := prCell_width (x := x0) hc hw12
   rw [hx] at hxw hxc
   have hxn : x.width = (x.width.toNat : Int) ∧ 1 ≤ x.width.toNat ∧ x.width.toNat ≤ 2 := by rcases hxw with h | h <;> rw [h] <;> decide
   have HXN := Lib.hid hxn
   have HXC := Lib.hid hx
   have HXP := Lib.hid (show x.pen = q by rw [← hx]; unfold prCell; split <;> (rw [HX00.out]; try rfl))
   have HXO := Lib.hid (show x.ok = true by rw [← hx]; unfold prCell; split; (rw [ok_blank, HX00.out]; exact HQ.out); exact HXK.out)
   have HXZ := Lib.hid (show ¬ x.width = 0 by omega)
   obtain ⟨hfit, hat, -, -⟩ := prAt_fits (x := x) (j := j) hj hxw hxc
   obtain ⟨at_, hat_⟩ : ∃ at_, prAt cols j x = at_ := ⟨_, rfl⟩
   rw [hat_] at hfit hat
   have HAT := Lib.hid hat_
   have HFT := Lib.hid hfit
   have HWS := Lib.hid (show IntKind.i64.wrap ((cols : Int) - x.width) = (cols : Int) - x.width from IntWalk.i64_in _ (by omega))
   have HWA := Lib.hid (show IntKind.i64.wrap ((at_ : Int) + x.width) = (at_ : Int) + x.width from IntWalk.i64_in _ (by omega))
   have HMIN := Lib.hid (show min (j : Int) ((cols : Int) - x.width) = (at_ : Int) by rw [← hat_]; unfold prAt; omega)
   clear hx hxw hxc hxn hat_ hfit
   have hbw : bw = decide ((cols : Int) < x0.width) := HBW.out.symm
   cases bw with
   | true =>
    have HXB := Lib.hid (show x = blank q by rw [← HXC.out]; unfold prCell; rw [if_pos (of_decide_eq_true hbw.symm), HX00.out])
    clear hbw
    have hp9 := (S10.out.box (k := 2) rfl).penAt
    have hp9z := (S10.out.box (k := 2) rfl).lt
    obtain ⟨hx7, hf7, hz7⟩ := (S10.out.box (k := 3) rfl).facts
    have hc18 := (S10.out.box (k := 0) rfl).cellAt
    have hw18 := (S10.out.box (k := 0) rfl).width4
    go_wp2_with fail
    clear hp9 hp9z hx7 hf7 hz7 hc18 hw18
    refine (cellBlank_any q _).mono ?_
    rintro e w5 ⟨rfl, hb⟩
    have hS := S10.out.bel hb
    have hst := store_cv_row w5 b18 (cv x0) (blank q) (hS.box (k := 0) rfl) (cv_size _)
    have S12 := Lib.hid (show Objs w0 (w5.setRow b18 (cv (blank q))) (.box b18 71 (cv x) :: .box b12 48 #[.int .i64 0, .int .i64 0, .bool false] :: .box b9 54 (pv q) :: .box b7 48 #[.int .i64 ↑i, .int .i64 ↑j, .bool pend] :: os) from by rw [HXB.out]; exact hS.rowBox 0 (ds := cv (blank q)) rfl)
    clear hb hS S10
    go_upto_region 15 with (fail)
    refine wp_region_stage (w0 := w0) (os := (.box b12 48 #[.int .i64 0, .int .i64 0, .bool false] :: .box b9 54 (pv q) :: .box b7 48 #[.int .i64 ↑i, .int .i64 ↑j, .bool pend] :: os)) (by kernel_rfl) (by kernel_rfl) (by kernel_rfl) [] [[], [], [], [], [0], [], [], []] [.box b18 71 (cv x)] (fun opn u => match opn with | 0 => u = .int .i64 ↑j | 1 => u = pt p 0 | 2 => u = .int .i64 ↑cols | 3 => u = pt b18 4 | 4 => u = .int .i64 x.width | 5 => u = .int .i64 (↑cols - x.width) | 6 => u = .int .i64 ↑at_ | 7 => u = .int .i64 ↑at_ | _ => True) (fun vs => [.box b18 71 (cv x)]) (by kernel_rfl) (fun vs => by rfl) S12.out ?_ ?_
    ·apply sc
     ·intro a w' vs σ hS hl hs hk
      have e19 : a.tmps.getD 19 undef = .int .i64 ↑j := (sk_later hk 7 (by kernel_rfl) rfl rfl).trans rfl
      have f19 := gd e19
      exact rp (.int .i64 ↑j) (by simp [execOp, Act.eval, e19, f19, go_sem]) hl hs hS
     apply sc
     ·intro a w' vs σ hS hl hs hk
      have f0 : a.tmps[0]?.getD undef = .pointer (some ⟨p, 0, none⟩) := sof hk
      exact rp (pt p 0) (by simp [execOp, Act.eval, f0, go_sem]) hl hs hS
     apply sc
     ·intro a w' vs σ hS hl hs hk
      have e69 : a.tmps.getD 69 undef = .pointer (some ⟨p, 0, none⟩) := sv hk 1
      exact ro_call (f := 18) (wanted_none rfl) rfl (by simp only [List.map_toArray, List.map_cons, List.map_nil, Act.eval, e69] <;> rfl) (fun _ _ => by kernel_rfl) ((Cols_any hS (k := k + 4) (by simpa using tg4 hl HK.out)).mono fun e w2 ⟨h1, h2⟩ => ⟨_, h1, sp_same (by kernel_rfl) hl hs h2 rfl, trivial⟩)
     apply sc
     ·intro a w' vs σ hS hl hs hk
      have f18 : a.tmps[18]?.getD undef = .pointer (some ⟨b18, 0, none⟩) := sof hk
      exact rp (pt b18 4) (by simp [execOp, Act.eval, f18, go_sem]) hl hs hS
     apply sc
     ·intro a w' vs σ hS hl hs hk
      have f71 : a.tmps[71]?.getD undef = .pointer (some ⟨b18, 4, none⟩) := sf hk 3
      have hx := (hS.box (sg (hs 0 (by decide)))).cell
      exact rp (.int .i64 x.width) (by simp [execOp, Act.eval, f71, go_sem, hx]) hl hs hS
     apply sc
     ·intro a w' vs σ hS hl hs hk
      have f70 : a.tmps[70]?.getD undef = .int .i64 ↑cols := sf hk 2
      have f72 : a.tmps[72]?.getD undef = .int .i64 x.width := sf hk 4
      exact rp (.int .i64 (↑cols - x.width)) (by simp [execOp, Act.eval, f70, f72, go_sem, HWS.out]) hl hs hS
     apply sc
     ·intro a w' vs σ hS hl hs hk
      have f68 : a.tmps[68]?.getD undef = .int .i64 ↑j := sf hk 0
      have f73 : a.tmps[73]?.getD undef = .int .i64 (↑cols - x.width) := sf hk 5
      have hmin := HMIN.out
      exact rp (.int .i64 ↑at_) (by simp [execOp, Act.eval, f68, f73, go_sem, hmin]) hl hs hS
     apply sc
     ·intro a w' vs σ hS hl hs hk
      have f74 : a.tmps[74]?.getD undef = .int .i64 ↑at_ := sf hk 6
      exact rp (.int .i64 ↑at_) (by simp [execOp, Act.eval, f74, go_sem]) hl hs hS
     exact SSteps.nil
    ·intro vs w' hS hv
     have q0 : vs 0 = _ := hv 0 (by decide)
     have q1 : vs 1 = _ := hv 1 (by decide)
     have q2 : vs 2 = _ := hv 2 (by decide)
     have q3 : vs 3 = _ := hv 3 (by decide)
     have q4 : vs 4 = _ := hv 4 (by decide)
     have q5 : vs 5 = _ := hv 5 (by decide)
     have q6 : vs 6 = _ := hv 6 (by decide)
     have q7 : vs 7 = _ := hv 7 (by decide)
     have S2 := Lib.hid hS
     simp only [putL, Act.put, Nat.zero_add, Nat.reduceAdd, List.setIfInBounds_toArray, List.set_cons_succ, List.set_cons_zero, q0, q1, q2, q3, q4, q5, q6, q7]
     clear hS hv q0 q1 q2 q3 q4 q5 q6 q7
     have S13 := S2
     clear S2 S12
     cases ins with
     | false =>
      have HFIN := Lib.hid (show printL i j cols x0 false L = rowMod i (putC at_ x) L by unfold printL; rw [HXC.out, HAT.out]; rfl)
      have hp9 := (S13.out.box (k := 2) rfl).penAt
      have hp9z := (S13.out.box (k := 2) rfl).lt
      obtain ⟨hx7, hf7, hz7⟩ := (S13.out.box (k := 3) rfl).facts
      have hc18 := (S13.out.box (k := 0) rfl).cellAt
      have hw18 := (S13.out.box (k := 0) rfl).width4
      go_wp2_with fail
      clear hp9 hp9z hx7 hf7 hz7 hc18 hw18
      refine (PutG (i := i) (j := at_) x HT.out S13.out (k := k + 4) HK.out hcm HR.out hi HXO.out HXZ.out HFT.out).mono ?_
      rintro e w7 ⟨rfl, hS⟩
      have S14 := Lib.hid hS
      clear hS S13
      obtain ⟨os2, hos2⟩ : ∃ os2, os2 = os.set k (.grid p 58 cols (rowMod i (putC at_ x) L)) := ⟨_, rfl⟩
      have HK2 := Lib.hid (show os2[k]? = some (.grid p 58 cols (rowMod i (putC at_ x) L)) by rw [hos2]; exact set_at HK.out)
      have HOS := Lib.hid hos2
      have S19 := Lib.hid (show Objs w0 _ (.box b18 71 (cv x) :: .box b12 48 #[.int .i64 0, .int .i64 0, .bool false] :: .box b9 54 (pv q) :: .box b7 48 #[.int .i64 ↑i, .int .i64 ↑j, .bool pend] :: os2) from by rw [hos2]; exact S14.out)
      clear hos2 S14
      have hw18 := (S19.out.box (k := 0) rfl).width4
      have hwa := HWA.out
      go_wp2_with fail
      clear hw18 hwa
      refine (Cols_any S19.out (k := k + 4) HK2.out).mono ?_
      rintro e w8 ⟨rfl, hS⟩
      have S20 := Lib.hid hS
      clear hS S19
      by_cases hend : (at_ : Int) + x.width < cols
      ·have d1 : decide ((at_ : Int) + x.width < (cols : Int)) = true := decide_eq_true hend
       have HP1 := Lib.hid (show ((prCol cols at_ x : Nat) : Int) = (at_ : Int) + x.width by unfold prCol; rw [if_pos (by have := HXN.out; omega)]; have := HXN.out; omega)
       have HP2 := Lib.hid (show prPend cols at_ x auto = false by unfold prPend; rw [if_pos (by have := HXN.out; omega)])
       obtain ⟨hx7, hf7, hz7⟩ := (S20.out.box (k := 3) rfl).facts
       obtain ⟨hx12, hf12, hz12⟩ := (S20.out.box (k := 1) rfl).facts
       have SF := Lib.hid (S20.out.setCur 1 (r := ↑i) (c := ↑at_ + x.width) (b := false) rfl)
       clear hend
       go_wp2_with fail
       refine bodyPost_ret (results_ct Tryd.results38 _ _ b12 _ _ rfl (SF.out.box (k := 1) rfl) Tryd.underlying48 rfl pcursor_size) rfl ?_
       exact ⟨by rw [HXC.out, HAT.out, HP1.out, HP2.out]; rfl, by rw [HFIN.out, ← HOS.out]; exact SF.out.tail.tail.tail.tail⟩
      ·have d1 : decide ((at_ : Int) + x.width < (cols : Int)) = false := decide_eq_false hend
       have HP1 := Lib.hid (show ((prCol cols at_ x : Nat) : Int) = (cols : Int) - 1 by unfold prCol; rw [if_neg (by have := HXN.out; omega)]; omega)
       have HP2 := Lib.hid (show prPend cols at_ x auto = auto by unfold prPend; rw [if_neg (by have := HXN.out; omega)])
       clear hend
       go_upto_region 26 with (fail)
       refine wp_region_stage (w0 := w0) (os := os2) (by kernel_rfl) (by kernel_rfl) (by kernel_rfl) [(1, 7, [], fun vs => .box b12 48 #[.int .i64 ↑i, .int .i64 (↑cols - 1), .bool auto])] [[], [3], [], [], [], [], [], [1], []] [.box b18 71 (cv x), .box b12 48 #[.int .i64 0, .int .i64 0, .bool false], .box b9 54 (pv q), .box b7 48 #[.int .i64 ↑i, .int .i64 ↑j, .bool pend]] (fun opn u => match opn with | 0 => u = pt b7 0 | 1 => u = .int .i64 ↑i | 2 => u = pt p 0 | 3 => u = .int .i64 ↑cols | 4 => u = .int .i64 (↑cols - 1) | 5 => u = .bool auto | 6 => u = .agg #[.int .i64 ↑i, .int .i64 (↑cols - 1), .bool auto] | 7 => True | 8 => u = .int .i64 0 | _ => True) (fun vs => [.box b18 71 (cv x), .box b12 48 #[.int .i64 ↑i, .int .i64 (↑cols - 1), .bool auto], .box b9 54 (pv q), .box b7 48 #[.int .i64 ↑i, .int .i64 ↑j, .bool pend]]) (by kernel_rfl) (fun vs => by rfl) S20.out ?_ ?_
       ·apply sc
        ·intro a w' vs σ hS hl hs hk
         have f7 : a.tmps[7]?.getD undef = .pointer (some ⟨b7, 0, none⟩) := sof hk
         exact rp (pt b7 0) (by simp [execOp, Act.eval, f7, go_sem]) hl hs hS
        apply sc
        ·intro a w' vs σ hS hl hs hk
         have f111 : a.tmps[111]?.getD undef = .pointer (some ⟨b7, 0, none⟩) := sf hk 0
         have hx := (hS.box (sg (hs 3 (by decide)))).cell
         exact rp (.int .i64 ↑i) (by simp [execOp, Act.eval, f111, go_sem, hx]) hl hs hS
        apply sc
        ·intro a w' vs σ hS hl hs hk
         have f0 : a.tmps[0]?.getD undef = .pointer (some ⟨p, 0, none⟩) := sof hk
         exact rp (pt p 0) (by simp [execOp, Act.eval, f0, go_sem]) hl hs hS
        apply sc
        ·intro a w' vs σ hS hl hs hk
         have e113 : a.tmps.getD 113 undef = .pointer (some ⟨p, 0, none⟩) := sv hk 2
         exact ro_call (f := 18) (wanted_none rfl) rfl (by simp only [List.map_toArray, List.map_cons, List.map_nil, Act.eval, e113] <;> rfl) (fun _ _ => by kernel_rfl) ((Cols_any hS (k := k + 4) (by simpa using tg4b hl HK2.out)).mono fun e w2 ⟨h1, h2⟩ => ⟨_, h1, sp_same (by kernel_rfl) hl hs h2 rfl, trivial⟩)
        apply sc
        ·intro a w' vs σ hS hl hs hk
         have f114 : a.tmps[114]?.getD undef = .int .i64 ↑cols := sf hk 3
         exact rp (.int .i64 (↑cols - 1)) (by simp [execOp, Act.eval, f114, go_sem, HWC.out]) hl hs hS
        apply sc
        ·intro a w' vs σ hS hl hs hk
         have f4 : a.tmps[4]?.getD undef = .bool auto := sof hk
         exact rp (.bool auto) (by simp [execOp, Act.eval, f4, go_sem]) hl hs hS
        apply sc
        ·intro a w' vs σ hS hl hs hk
         have f112 : a.tmps[112]?.getD undef = .int .i64 ↑i := sf hk 1
         have f115 : a.tmps[115]?.getD undef = .int .i64 (↑cols - 1) := sf hk 4
         have f116 : a.tmps[116]?.getD undef = .bool auto := sf hk 5
         exact rp (.agg #[.int .i64 ↑i, .int .i64 (↑cols - 1), .bool auto]) (by simp [execOp, Act.eval, f112, f115, f116, go_sem]) hl hs hS
        apply sc
        ·intro a w' vs σ hS hl hs hk
         have f12 : a.tmps[12]?.getD undef = .pointer (some ⟨b12, 0, none⟩) := sof hk
         have f117 : a.tmps[117]?.getD undef = .agg #[.int .i64 ↑i, .int .i64 (↑cols - 1), .bool auto] := sf hk 6
         have h1 : σ[1]? = some (.box b12 48 #[.int .i64 0, .int .i64 0, .bool false]) := hs 1 (by decide)
         obtain ⟨hx, hf, hz⟩ := (hS.box (sg h1)).facts
         exact rstep_store (w2 := ((w'.setCell ⟨b12, 0, none⟩ (.int .i64 ↑i)).setCell ⟨b12, 1, none⟩ (.int .i64 (↑cols - 1))).setCell ⟨b12, 2, none⟩ (.bool auto)) (wanted_none rfl) rfl (by simp [execOp, Act.eval, f12, f117, hx, hf, hz, go_sem]) (sp_set 1 (.box b12 48 #[.int .i64 ↑i, .int .i64 (↑cols - 1), .bool auto]) (by kernel_rfl) (by simp) (by decide) hl hs (by rfl) (hS.setCur 1 (sg h1)) trivial) trivial
        apply sc
        ·intro a w' vs σ hS hl hs hk
         exact rp (.int .i64 0) (by simp [execOp, Act.eval, go_sem]) hl hs hS
        exact SSteps.nil
       ·intro vs w' hS hv
        have q0 : vs 0 = _ := hv 0 (by decide)
        have q1 : vs 1 = _ := hv 1 (by decide)
        have q2 : vs 2 = _ := hv 2 (by decide)
        have q3 : vs 3 = _ := hv 3 (by decide)
        have q4 : vs 4 = _ := hv 4 (by decide)
        have q5 : vs 5 = _ := hv 5 (by decide)
        have q6 : vs 6 = _ := hv 6 (by decide)
        have q8 : vs 8 = _ := hv 8 (by decide)
        have S2 := Lib.hid hS
        simp only [putL, Act.put, Nat.zero_add, Nat.reduceAdd, List.setIfInBounds_toArray, List.set_cons_succ, List.set_cons_zero, q0, q1, q2, q3, q4, q5, q6, q8]
        clear hS hv q0 q1 q2 q3 q4 q5 q6 q8
        have SF := S2
        clear S2
        go_wp2_with fail
        refine bodyPost_ret (results_ct Tryd.results38 _ _ b12 _ _ rfl (SF.out.box (k := 1) rfl) Tryd.underlying48 rfl pcursor_size) rfl ?_
        exact ⟨by rw [HXC.out, HAT.out, HP1.out, HP2.out]; rfl, by rw [HFIN.out, ← HOS.out]; exact SF.out.tail.tail.tail.tail⟩
     | true =>
      have HFIN := Lib.hid (show printL i j cols x0 true L = rowMod i (putC at_ x) (rowMod i (shiftN at_ cols x.width q) L) by
       unfold printL; rw [HXC.out, HAT.out, rowMod_is, rowMod_is, rowMod_is, lnMod_lnMod]; unfold prRow; rw [HXP.out]; rfl)
      have hp9 := (S13.out.box (k := 2) rfl).penAt
      have hp9z := (S13.out.box (k := 2) rfl).lt
      obtain ⟨hx7, hf7, hz7⟩ := (S13.out.box (k := 3) rfl).facts
      have hc18 := (S13.out.box (k := 0) rfl).cellAt
      have hw18 := (S13.out.box (k := 0) rfl).width4
      go_wp2_with fail
      clear hp9 hp9z hx7 hf7 hz7 hc18 hw18
      refine (ShiftG (i := i) (j := at_) x.width q HT.out S13.out (k := k + 4) HK.out hcm HR.out hi HQ.out hat (by have := HXN.out; omega)).mono ?_
      rintro e w6 ⟨rfl, hS⟩
      obtain ⟨L1, hL1⟩ : ∃ L1, L1 = rowMod i (shiftN at_ cols x.width q) L := ⟨_, rfl⟩
      have HR1 := Lib.hid (show Rect cols L1 by rw [hL1]; exact HR.out.rowMod i (fun cs h => shiftN_length h hat))
      have hi1 : i < L1.length := by rw [hL1, rowMod_length]; exact hi
      rw [← hL1] at hS HFIN
      obtain ⟨os1, hos1⟩ : ∃ os1, os1 = os.set k (.grid p 58 cols L1) := ⟨_, rfl⟩
      have HK1 := Lib.hid (show os1[k]? = some (.grid p 58 cols L1) by rw [hos1]; exact set_at HK.out)
      have HOS1 := Lib.hid (show ∀ o, os1.set k o = os.set k o from fun o => by rw [hos1, List.set_set])
      have S14 := Lib.hid (show Objs w0 w6 (.box b18 71 (cv x) :: .box b12 48 #[.int .i64 0, .int .i64 0, .bool false] :: .box b9 54 (pv q) :: .box b7 48 #[.int .i64 ↑i, .int .i64 ↑j, .bool pend] :: os1) from by rw [hos1]; exact hS)
      clear hS S13 hL1 hos1
      have hp9 := (S14.out.box (k := 2) rfl).penAt
      have hp9z := (S14.out.box (k := 2) rfl).lt
      obtain ⟨hx7, hf7, hz7⟩ := (S14.out.box (k := 3) rfl).facts
      have hc18 := (S14.out.box (k := 0) rfl).cellAt
      have hw18 := (S14.out.box (k := 0) rfl).width4
      go_wp2_with fail
      clear hp9 hp9z hx7 hf7 hz7 hc18 hw18
      refine (PutG (i := i) (j := at_) x HT.out S14.out (k := k + 4) HK1.out hcm HR1.out hi1 HXO.out HXZ.out HFT.out).mono ?_
      rintro e w7 ⟨rfl, hS⟩
      have S15 := Lib.hid (show Objs w0 w7 (.box b18 71 (cv x) :: .box b12 48 #[.int .i64 0, .int .i64 0, .bool false] :: .box b9 54 (pv q) :: .box b7 48 #[.int .i64 ↑i, .int .i64 ↑j, .bool pend] :: os.set k (.grid p 58 cols (rowMod i (putC at_ x) L1))) from by rw [← HOS1.out]; exact hS)
      clear hS S14
      obtain ⟨os2, hos2⟩ : ∃ os2, os2 = os.set k (.grid p 58 cols (rowMod i (putC at_ x) L1)) := ⟨_, rfl⟩
      have HK2 := Lib.hid (show os2[k]? = some (.grid p 58 cols (rowMod i (putC at_ x) L1)) by rw [hos2]; exact set_at HK.out)
      have HOS := Lib.hid hos2
      have S19 := Lib.hid (show Objs w0 _ (.box b18 71 (cv x) :: .box b12 48 #[.int .i64 0, .int .i64 0, .bool false] :: .box b9 54 (pv q) :: .box b7 48 #[.int .i64 ↑i, .int .i64 ↑j, .bool pend] :: os2) from by rw [hos2]; exact S15.out)
      clear hos2 S15
      have hw18 := (S19.out.box (k := 0) rfl).width4
      have hwa := HWA.out
      go_wp2_with fail
      clear hw18 hwa
      refine (Cols_any S19.out (k := k + 4) HK2.out).mono ?_
      rintro e w8 ⟨rfl, hS⟩
      have S20 := Lib.hid hS
      clear hS S19
      by_cases hend : (at_ : Int) + x.width < cols
      ·have d1 : decide ((at_ : Int) + x.width < (cols : Int)) = true := decide_eq_true hend
       have HP1 := Lib.hid (show ((prCol cols at_ x : Nat) : Int) = (at_ : Int) + x.width by unfold prCol; rw [if_pos (by have := HXN.out; omega)]; have := HXN.out; omega)
       have HP2 := Lib.hid (show prPend cols at_ x auto = false by unfold prPend; rw [if_pos (by have := HXN.out; omega)])
       obtain ⟨hx7, hf7, hz7⟩ := (S20.out.box (k := 3) rfl).facts
       obtain ⟨hx12, hf12, hz12⟩ := (S20.out.box (k := 1) rfl).facts
       have SF := Lib.hid (S20.out.setCur 1 (r := ↑i) (c := ↑at_ + x.width) (b := false) rfl)
       clear hend
       go_wp2_with fail
       refine bodyPost_ret (results_ct Tryd.results38 _ _ b12 _ _ rfl (SF.out.box (k := 1) rfl) Tryd.underlying48 rfl pcursor_size) rfl ?_
       exact ⟨by rw [HXC.out, HAT.out, HP1.out, HP2.out]; rfl, by rw [HFIN.out, ← HOS.out]; exact SF.out.tail.tail.tail.tail⟩
      ·have d1 : decide ((at_ : Int) + x.width < (cols : Int)) = false := decide_eq_false hend
       have HP1 := Lib.hid (show ((prCol cols at_ x : Nat) : Int) = (cols : Int) - 1 by unfold prCol; rw [if_neg (by have := HXN.out; omega)]; omega)
       have HP2 := Lib.hid (show prPend cols at_ x auto = auto by unfold prPend; rw [if_neg (by have := HXN.out; omega)])
       clear hend
       go_upto_region 26 with (fail)
       refine wp_region_stage (w0 := w0) (os := os2) (by kernel_rfl) (by kernel_rfl) (by kernel_rfl) [(1, 7, [], fun vs => .box b12 48 #[.int .i64 ↑i, .int .i64 (↑cols - 1), .bool auto])] [[], [3], [], [], [], [], [], [1], []] [.box b18 71 (cv x), .box b12 48 #[.int .i64 0, .int .i64 0, .bool false], .box b9 54 (pv q), .box b7 48 #[.int .i64 ↑i, .int .i64 ↑j, .bool pend]] (fun opn u => match opn with | 0 => u = pt b7 0 | 1 => u = .int .i64 ↑i | 2 => u = pt p 0 | 3 => u = .int .i64 ↑cols | 4 => u = .int .i64 (↑cols - 1) | 5 => u = .bool auto | 6 => u = .agg #[.int .i64 ↑i, .int .i64 (↑cols - 1), .bool auto] | 7 => True | 8 => u = .int .i64 0 | _ => True) (fun vs => [.box b18 71 (cv x), .box b12 48 #[.int .i64 ↑i, .int .i64 (↑cols - 1), .bool auto], .box b9 54 (pv q), .box b7 48 #[.int .i64 ↑i, .int .i64 ↑j, .bool pend]]) (by kernel_rfl) (fun vs => by rfl) S20.out ?_ ?_
       ·apply sc
        ·intro a w' vs σ hS hl hs hk
         have f7 : a.tmps[7]?.getD undef = .pointer (some ⟨b7, 0, none⟩) := sof hk
         exact rp (pt b7 0) (by simp [execOp, Act.eval, f7, go_sem]) hl hs hS
        apply sc
        ·intro a w' vs σ hS hl hs hk
         have f111 : a.tmps[111]?.getD undef = .pointer (some ⟨b7, 0, none⟩) := sf hk 0
         have hx := (hS.box (sg (hs 3 (by decide)))).cell
         exact rp (.int .i64 ↑i) (by simp [execOp, Act.eval, f111, go_sem, hx]) hl hs hS
        apply sc
        ·intro a w' vs σ hS hl hs hk
         have f0 : a.tmps[0]?.getD undef = .pointer (some ⟨p, 0, none⟩) := sof hk
         exact rp (pt p 0) (by simp [execOp, Act.eval, f0, go_sem]) hl hs hS
        apply sc
        ·intro a w' vs σ hS hl hs hk
         have e113 : a.tmps.getD 113 undef = .pointer (some ⟨p, 0, none⟩) := sv hk 2
         exact ro_call (f := 18) (wanted_none rfl) rfl (by simp only [List.map_toArray, List.map_cons, List.map_nil, Act.eval, e113] <;> rfl) (fun _ _ => by kernel_rfl) ((Cols_any hS (k := k + 4) (by simpa using tg4b hl HK2.out)).mono fun e w2 ⟨h1, h2⟩ => ⟨_, h1, sp_same (by kernel_rfl) hl hs h2 rfl, trivial⟩)
        apply sc
        ·intro a w' vs σ hS hl hs hk
         have f114 : a.tmps[114]?.getD undef = .int .i64 ↑cols := sf hk 3
         exact rp (.int .i64 (↑cols - 1)) (by simp [execOp, Act.eval, f114, go_sem, HWC.out]) hl hs hS
        apply sc
        ·intro a w' vs σ hS hl hs hk
         have f4 : a.tmps[4]?.getD undef = .bool auto := sof hk
         exact rp (.bool auto) (by simp [execOp, Act.eval, f4, go_sem]) hl hs hS
        apply sc
        ·intro a w' vs σ hS hl hs hk
         have f112 : a.tmps[112]?.getD undef = .int .i64 ↑i := sf hk 1
         have f115 : a.tmps[115]?.getD undef = .int .i64 (↑cols - 1) := sf hk 4
         have f116 : a.tmps[116]?.getD undef = .bool auto := sf hk 5
         exact rp (.agg #[.int .i64 ↑i, .int .i64 (↑cols - 1), .bool auto]) (by simp [execOp, Act.eval, f112, f115, f116, go_sem]) hl hs hS
        apply sc
        ·intro a w' vs σ hS hl hs hk
         have f12 : a.tmps[12]?.getD undef = .pointer (some ⟨b12, 0, none⟩) := sof hk
         have f117 : a.tmps[117]?.getD undef = .agg #[.int .i64 ↑i, .int .i64 (↑cols - 1), .bool auto] := sf hk 6
         have h1 : σ[1]? = some (.box b12 48 #[.int .i64 0, .int .i64 0, .bool false]) := hs 1 (by decide)
         obtain ⟨hx, hf, hz⟩ := (hS.box (sg h1)).facts
         exact rstep_store (w2 := ((w'.setCell ⟨b12, 0, none⟩ (.int .i64 ↑i)).setCell ⟨b12, 1, none⟩ (.int .i64 (↑cols - 1))).setCell ⟨b12, 2, none⟩ (.bool auto)) (wanted_none rfl) rfl (by simp [execOp, Act.eval, f12, f117, hx, hf, hz, go_sem]) (sp_set 1 (.box b12 48 #[.int .i64 ↑i, .int .i64 (↑cols - 1), .bool auto]) (by kernel_rfl) (by simp) (by decide) hl hs (by rfl) (hS.setCur 1 (sg h1)) trivial) trivial
        apply sc
        ·intro a w' vs σ hS hl hs hk
         exact rp (.int .i64 0) (by simp [execOp, Act.eval, go_sem]) hl hs hS
        exact SSteps.nil
       ·intro vs w' hS hv
        have q0 : vs 0 = _ := hv 0 (by decide)
        have q1 : vs 1 = _ := hv 1 (by decide)
        have q2 : vs 2 = _ := hv 2 (by decide)
        have q3 : vs 3 = _ := hv 3 (by decide)
        have q4 : vs 4 = _ := hv 4 (by decide)
        have q5 : vs 5 = _ := hv 5 (by decide)
        have q6 : vs 6 = _ := hv 6 (by decide)
        have q8 : vs 8 = _ := hv 8 (by decide)
        have S2 := Lib.hid hS
        simp only [putL, Act.put, Nat.zero_add, Nat.reduceAdd, List.setIfInBounds_toArray, List.set_cons_succ, List.set_cons_zero, q0, q1, q2, q3, q4, q5, q6, q8]
        clear hS hv q0 q1 q2 q3 q4 q5 q6 q8
        have SF := S2
        clear S2
        go_wp2_with fail
        refine bodyPost_ret (results_ct Tryd.results38 _ _ b12 _ _ rfl (SF.out.box (k := 1) rfl) Tryd.underlying48 rfl pcursor_size) rfl ?_
        exact ⟨by rw [HXC.out, HAT.out, HP1.out, HP2.out]; rfl, by rw [HFIN.out, ← HOS.out]; exact SF.out.tail.tail.tail.tail⟩
   | false =>
    have HXB := Lib.hid (show x = x0 by rw [← HXC.out]; unfold prCell; rw [if_neg (of_decide_eq_false hbw.symm)])
    clear hbw
    have S12 := Lib.hid (show Objs w0 _ (.box b18 71 (cv x) :: .box b12 48 #[.int .i64 0, .int .i64 0, .bool false] :: .box b9 54 (pv q) :: .box b7 48 #[.int .i64 ↑i, .int .i64 ↑j, .bool pend] :: os) from by rw [HXB.out]; exact S10.out)
    clear S10
    go_upto_region 15 with (fail)
    refine wp_region_stage (w0 := w0) (os := (.box b12 48 #[.int .i64 0, .int .i64 0, .bool false] :: .box b9 54 (pv q) :: .box b7 48 #[.int .i64 ↑i, .int .i64 ↑j, .bool pend] :: os)) (by kernel_rfl) (by kernel_rfl) (by kernel_rfl) [] [[], [], [], [], [0], [], [], []] [.box b18 71 (cv x)] (fun opn u => match opn with | 0 => u = .int .i64 ↑j | 1 => u = pt p 0 | 2 => u = .int .i64 ↑cols | 3 => u = pt b18 4 | 4 => u = .int .i64 x.width | 5 => u = .int .i64 (↑cols - x.width) | 6 => u = .int .i64 ↑at_ | 7 => u = .int .i64 ↑at_ | _ => True) (fun vs => [.box b18 71 (cv x)]) (by kernel_rfl) (fun vs => by rfl) S12.out ?_ ?_
    ·apply sc
     ·intro a w' vs σ hS hl hs hk
      have e19 : a.tmps.getD 19 undef = .int .i64 ↑j := (sk_later hk 7 (by kernel_rfl) rfl rfl).trans rfl
      have f19 := gd e19
      exact rp (.int .i64 ↑j) (by simp [execOp, Act.eval, e19, f19, go_sem]) hl hs hS
     apply sc
     ·intro a w' vs σ hS hl hs hk
      have f0 : a.tmps[0]?.getD undef = .pointer (some ⟨p, 0, none⟩) := sof hk
      exact rp (pt p 0) (by simp [execOp, Act.eval, f0, go_sem]) hl hs hS
     apply sc
     ·intro a w' vs σ hS hl hs hk
      have e69 : a.tmps.getD 69 undef = .pointer (some ⟨p, 0, none⟩) := sv hk 1
      exact ro_call (f := 18) (wanted_none rfl) rfl (by simp only [List.map_toArray, List.map_cons, List.map_nil, Act.eval, e69] <;> rfl) (fun _ _ => by kernel_rfl) ((Cols_any hS (k := k + 4) (by simpa using tg4 hl HK.out)).mono fun e w2 ⟨h1, h2⟩ => ⟨_, h1, sp_same (by kernel_rfl) hl hs h2 rfl, trivial⟩)
     apply sc
     ·intro a w' vs σ hS hl hs hk
      have f18 : a.tmps[18]?.getD undef = .pointer (some ⟨b18, 0, none⟩) := sof hk
      exact rp (pt b18 4) (by simp [execOp, Act.eval, f18, go_sem]) hl hs hS
     apply sc
     ·intro a w' vs σ hS hl hs hk
      have f71 : a.tmps[71]?.getD undef = .pointer (some ⟨b18, 4, none⟩) := sf hk 3
      have hx := (hS.box (sg (hs 0 (by decide)))).cell
      exact rp (.int .i64 x.width) (by simp [execOp, Act.eval, f71, go_sem, hx]) hl hs hS
     apply sc
     ·intro a w' vs σ hS hl hs hk
      have f70 : a.tmps[70]?.getD undef = .int .i64 ↑cols := sf hk 2
      have f72 : a.tmps[72]?.getD undef = .int .i64 x.width := sf hk 4
      exact rp (.int .i64 (↑cols - x.width)) (by simp [execOp, Act.eval, f70, f72, go_sem, HWS.out]) hl hs hS
     apply sc
     ·intro a w' vs σ hS hl hs hk
      have f68 : a.tmps[68]?.getD undef = .int .i64 ↑j := sf hk 0
      have f73 : a.tmps[73]?.getD undef = .int .i64 (↑cols - x.width) := sf hk 5
      have hmin := HMIN.out
      exact rp (.int .i64 ↑at_) (by simp [execOp, Act.eval, f68, f73, go_sem, hmin]) hl hs hS
     apply sc
     ·intro a w' vs σ hS hl hs hk
      have f74 : a.tmps[74]?.getD undef = .int .i64 ↑at_ := sf hk 6
      exact rp (.int .i64 ↑at_) (by simp [execOp, Act.eval, f74, go_sem]) hl hs hS
     exact SSteps.nil
    ·intro vs w' hS hv
     have q0 : vs 0 = _ := hv 0 (by decide)
     have q1 : vs 1 = _ := hv 1 (by decide)
     have q2 : vs 2 = _ := hv 2 (by decide)
     have q3 : vs 3 = _ := hv 3 (by decide)
     have q4 : vs 4 = _ := hv 4 (by decide)
     have q5 : vs 5 = _ := hv 5 (by decide)
     have q6 : vs 6 = _ := hv 6 (by decide)
     have q7 : vs 7 = _ := hv 7 (by decide)
     have S2 := Lib.hid hS
     simp only [putL, Act.put, Nat.zero_add, Nat.reduceAdd, List.setIfInBounds_toArray, List.set_cons_succ, List.set_cons_zero, q0, q1, q2, q3, q4, q5, q6, q7]
     clear hS hv q0 q1 q2 q3 q4 q5 q6 q7
     have S13 := S2
     clear S2 S12
     cases ins with
     | false =>
      have HFIN := Lib.hid (show printL i j cols x0 false L = rowMod i (putC at_ x) L by unfold printL; rw [HXC.out, HAT.out]; rfl)
      have hp9 := (S13.out.box (k := 2) rfl).penAt
      have hp9z := (S13.out.box (k := 2) rfl).lt
      obtain ⟨hx7, hf7, hz7⟩ := (S13.out.box (k := 3) rfl).facts
      have hc18 := (S13.out.box (k := 0) rfl).cellAt
      have hw18 := (S13.out.box (k := 0) rfl).width4
      go_wp2_with fail
      clear hp9 hp9z hx7 hf7 hz7 hc18 hw18
      refine (PutG (i := i) (j := at_) x HT.out S13.out (k := k + 4) HK.out hcm HR.out hi HXO.out HXZ.out HFT.out).mono ?_
      rintro e w7 ⟨rfl, hS⟩
      have S14 := Lib.hid hS
      clear hS S13
      obtain ⟨os2, hos2⟩ : ∃ os2, os2 = os.set k (.grid p 58 cols (rowMod i (putC at_ x) L)) := ⟨_, rfl⟩
      have HK2 := Lib.hid (show os2[k]? = some (.grid p 58 cols (rowMod i (putC at_ x) L)) by rw [hos2]; exact set_at HK.out)
      have HOS := Lib.hid hos2
      have S19 := Lib.hid (show Objs w0 _ (.box b18 71 (cv x) :: .box b12 48 #[.int .i64 0, .int .i64 0, .bool false] :: .box b9 54 (pv q) :: .box b7 48 #[.int .i64 ↑i, .int .i64 ↑j, .bool pend] :: os2) from by rw [hos2]; exact S14.out)
      clear hos2 S14
      have hw18 := (S19.out.box (k := 0) rfl).width4
      have hwa := HWA.out
      go_wp2_with fail
      clear hw18 hwa
      refine (Cols_any S19.out (k := k + 4) HK2.out).mono ?_
      rintro e w8 ⟨rfl, hS⟩
      have S20 := Lib.hid hS
      clear hS S19
      by_cases hend : (at_ : Int) + x.width < cols
      ·have d1 : decide ((at_ : Int) + x.width < (cols : Int)) = true := decide_eq_true hend
       have HP1 := Lib.hid (show ((prCol cols at_ x : Nat) : Int) = (at_ : Int) + x.width by unfold prCol; rw [if_pos (by have := HXN.out; omega)]; have := HXN.out; omega)
       have HP2 := Lib.hid (show prPend cols at_ x auto = false by unfold prPend; rw [if_pos (by have := HXN.out; omega)])
       obtain ⟨hx7, hf7, hz7⟩ := (S20.out.box (k := 3) rfl).facts
       obtain ⟨hx12, hf12, hz12⟩ := (S20.out.box (k := 1) rfl).facts
       have SF := Lib.hid (S20.out.setCur 1 (r := ↑i) (c := ↑at_ + x.width) (b := false) rfl)
       clear hend
       go_wp2_with fail
       refine bodyPost_ret (results_ct Tryd.results38 _ _ b12 _ _ rfl (SF.out.box (k := 1) rfl) Tryd.underlying48 rfl pcursor_size) rfl ?_
       exact ⟨by rw [HXC.out, HAT.out, HP1.out, HP2.out]; rfl, by rw [HFIN.out, ← HOS.out]; exact SF.out.tail.tail.tail.tail⟩
      ·have d1 : decide ((at_ : Int) + x.width < (cols : Int)) = false := decide_eq_false hend
       have HP1 := Lib.hid (show ((prCol cols at_ x : Nat) : Int) = (cols : Int) - 1 by unfold prCol; rw [if_neg (by have := HXN.out; omega)]; omega)
       have HP2 := Lib.hid (show prPend cols at_ x auto = auto by unfold prPend; rw [if_neg (by have := HXN.out; omega)])
       clear hend
       go_upto_region 26 with (fail)
       refine wp_region_stage (w0 := w0) (os := os2) (by kernel_rfl) (by kernel_rfl) (by kernel_rfl) [(1, 7, [], fun vs => .box b12 48 #[.int .i64 ↑i, .int .i64 (↑cols - 1), .bool auto])] [[], [3], [], [], [], [], [], [1], []] [.box b18 71 (cv x), .box b12 48 #[.int .i64 0, .int .i64 0, .bool false], .box b9 54 (pv q), .box b7 48 #[.int .i64 ↑i, .int .i64 ↑j, .bool pend]] (fun opn u => match opn with | 0 => u = pt b7 0 | 1 => u = .int .i64 ↑i | 2 => u = pt p 0 | 3 => u = .int .i64 ↑cols | 4 => u = .int .i64 (↑cols - 1) | 5 => u = .bool auto | 6 => u = .agg #[.int .i64 ↑i, .int .i64 (↑cols - 1), .bool auto] | 7 => True | 8 => u = .int .i64 0 | _ => True) (fun vs => [.box b18 71 (cv x), .box b12 48 #[.int .i64 ↑i, .int .i64 (↑cols - 1), .bool auto], .box b9 54 (pv q), .box b7 48 #[.int .i64 ↑i, .int .i64 ↑j, .bool pend]]) (by kernel_rfl) (fun vs => by rfl) S20.out ?_ ?_
       ·apply sc
        ·intro a w' vs σ hS hl hs hk
         have f7 : a.tmps[7]?.getD undef = .pointer (some ⟨b7, 0, none⟩) := sof hk
         exact rp (pt b7 0) (by simp [execOp, Act.eval, f7, go_sem]) hl hs hS
        apply sc
        ·intro a w' vs σ hS hl hs hk
         have f111 : a.tmps[111]?.getD undef = .pointer (some ⟨b7, 0, none⟩) := sf hk 0
         have hx := (hS.box (sg (hs 3 (by decide)))).cell
         exact rp (.int .i64 ↑i) (by simp [execOp, Act.eval, f111, go_sem, hx]) hl hs hS
        apply sc
        ·intro a w' vs σ hS hl hs hk
         have f0 : a.tmps[0]?.getD undef = .pointer (some ⟨p, 0, none⟩) := sof hk
         exact rp (pt p 0) (by simp [execOp, Act.eval, f0, go_sem]) hl hs hS
        apply sc
        ·intro a w' vs σ hS hl hs hk
         have e113 : a.tmps.getD 113 undef = .pointer (some ⟨p, 0, none⟩) := sv hk 2
         exact ro_call (f := 18) (wanted_none rfl) rfl (by simp only [List.map_toArray, List.map_cons, List.map_nil, Act.eval, e113] <;> rfl) (fun _ _ => by kernel_rfl) ((Cols_any hS (k := k + 4) (by simpa using tg4b hl HK2.out)).mono fun e w2 ⟨h1, h2⟩ => ⟨_, h1, sp_same (by kernel_rfl) hl hs h2 rfl, trivial⟩)
        apply sc
        ·intro a w' vs σ hS hl hs hk
         have f114 : a.tmps[114]?.getD undef = .int .i64 ↑cols := sf hk 3
         exact rp (.int .i64 (↑cols - 1)) (by simp [execOp, Act.eval, f114, go_sem, HWC.out]) hl hs hS
        apply sc
        ·intro a w' vs σ hS hl hs hk
         have f4 : a.tmps[4]?.getD undef = .bool auto := sof hk
         exact rp (.bool auto) (by simp [execOp, Act.eval, f4, go_sem]) hl hs hS
        apply sc
        ·intro a w' vs σ hS hl hs hk
         have f112 : a.tmps[112]?.getD undef = .int .i64 ↑i := sf hk 1
         have f115 : a.tmps[115]?.getD undef = .int .i64 (↑cols - 1) := sf hk 4
         have f116 : a.tmps[116]?.getD undef = .bool auto := sf hk 5
         exact rp (.agg #[.int .i64 ↑i, .int .i64 (↑cols - 1), .bool auto]) (by simp [execOp, Act.eval, f112, f115, f116, go_sem]) hl hs hS
        apply sc
        ·intro a w' vs σ hS hl hs hk
         have f12 : a.tmps[12]?.getD undef = .pointer (some ⟨b12, 0, none⟩) := sof hk
         have f117 : a.tmps[117]?.getD undef = .agg #[.int .i64 ↑i, .int .i64 (↑cols - 1), .bool auto] := sf hk 6
         have h1 : σ[1]? = some (.box b12 48 #[.int .i64 0, .int .i64 0, .bool false]) := hs 1 (by decide)
         obtain ⟨hx, hf, hz⟩ := (hS.box (sg h1)).facts
         exact rstep_store (w2 := ((w'.setCell ⟨b12, 0, none⟩ (.int .i64 ↑i)).setCell ⟨b12, 1, none⟩ (.int .i64 (↑cols - 1))).setCell ⟨b12, 2, none⟩ (.bool auto)) (wanted_none rfl) rfl (by simp [execOp, Act.eval, f12, f117, hx, hf, hz, go_sem]) (sp_set 1 (.box b12 48 #[.int .i64 ↑i, .int .i64 (↑cols - 1), .bool auto]) (by kernel_rfl) (by simp) (by decide) hl hs (by rfl) (hS.setCur 1 (sg h1)) trivial) trivial
        apply sc
        ·intro a w' vs σ hS hl hs hk
         exact rp (.int .i64 0) (by simp [execOp, Act.eval, go_sem]) hl hs hS
        exact SSteps.nil
       ·intro vs w' hS hv
        have q0 : vs 0 = _ := hv 0 (by decide)
        have q1 : vs 1 = _ := hv 1 (by decide)
        have q2 : vs 2 = _ := hv 2 (by decide)
        have q3 : vs 3 = _ := hv 3 (by decide)
        have q4 : vs 4 = _ := hv 4 (by decide)
        have q5 : vs 5 = _ := hv 5 (by decide)
        have q6 : vs 6 = _ := hv 6 (by decide)
        have q8 : vs 8 = _ := hv 8 (by decide)
        have S2 := Lib.hid hS
        simp only [putL, Act.put, Nat.zero_add, Nat.reduceAdd, List.setIfInBounds_toArray, List.set_cons_succ, List.set_cons_zero, q0, q1, q2, q3, q4, q5, q6, q8]
        clear hS hv q0 q1 q2 q3 q4 q5 q6 q8
        have SF := S2
        clear S2
        go_wp2_with fail
        refine bodyPost_ret (results_ct Tryd.results38 _ _ b12 _ _ rfl (SF.out.box (k := 1) rfl) Tryd.underlying48 rfl pcursor_size) rfl ?_
        exact ⟨by rw [HXC.out, HAT.out, HP1.out, HP2.out]; rfl, by rw [HFIN.out, ← HOS.out]; exact SF.out.tail.tail.tail.tail⟩
     | true =>
      have HFIN := Lib.hid (show printL i j cols x0 true L = rowMod i (putC at_ x) (rowMod i (shiftN at_ cols x.width q) L) by
       unfold printL; rw [HXC.out, HAT.out, rowMod_is, rowMod_is, rowMod_is, lnMod_lnMod]; unfold prRow; rw [HXP.out]; rfl)
      have hp9 := (S13.out.box (k := 2) rfl).penAt
      have hp9z := (S13.out.box (k := 2) rfl).lt
      obtain ⟨hx7, hf7, hz7⟩ := (S13.out.box (k := 3) rfl).facts
      have hc18 := (S13.out.box (k := 0) rfl).cellAt
      have hw18 := (S13.out.box (k := 0) rfl).width4
      go_wp2_with fail
      clear hp9 hp9z hx7 hf7 hz7 hc18 hw18
      refine (ShiftG (i := i) (j := at_) x.width q HT.out S13.out (k := k + 4) HK.out hcm HR.out hi HQ.out hat (by have := HXN.out; omega)).mono ?_
      rintro e w6 ⟨rfl, hS⟩
      obtain ⟨L1, hL1⟩ : ∃ L1, L1 = rowMod i (shiftN at_ cols x.width q) L := ⟨_, rfl⟩
      have HR1 := Lib.hid (show Rect cols L1 by rw [hL1]; exact HR.out.rowMod i (fun cs h => shiftN_length h hat))
      have hi1 : i < L1.length := by rw [hL1, rowMod_length]; exact hi
      rw [← hL1] at hS HFIN
      obtain ⟨os1, hos1⟩ : ∃ os1, os1 = os.set k (.grid p 58 cols L1) := ⟨_, rfl⟩
      have HK1 := Lib.hid (show os1[k]? = some (.grid p 58 cols L1) by rw [hos1]; exact set_at HK.out)
      have HOS1 := Lib.hid (show ∀ o, os1.set k o = os.set k o from fun o => by rw [hos1, List.set_set])
      have S14 := Lib.hid (show Objs w0 w6 (.box b18 71 (cv x) :: .box b12 48 #[.int .i64 0, .int .i64 0, .bool false] :: .box b9 54 (pv q) :: .box b7 48 #[.int .i64 ↑i, .int .i64 ↑j, .bool pend] :: os1) from by rw [hos1]; exact hS)
      clear hS S13 hL1 hos1
      have hp9 := (S14.out.box (k := 2) rfl).penAt
      have hp9z := (S14.out.box (k := 2) rfl).lt
      obtain ⟨hx7, hf7, hz7⟩ := (S14.out.box (k := 3) rfl).facts
      have hc18 := (S14.out.box (k := 0) rfl).cellAt
      have hw18 := (S14.out.box (k := 0) rfl).width4
      go_wp2_with fail
      clear hp9 hp9z hx7 hf7 hz7 hc18 hw18
      refine (PutG (i := i) (j := at_) x HT.out S14.out (k := k + 4) HK1.out hcm HR1.out hi1 HXO.out HXZ.out HFT.out).mono ?_
      rintro e w7 ⟨rfl, hS⟩
      have S15 := Lib.hid (show Objs w0 w7 (.box b18 71 (cv x) :: .box b12 48 #[.int .i64 0, .int .i64 0, .bool false] :: .box b9 54 (pv q) :: .box b7 48 #[.int .i64 ↑i, .int .i64 ↑j, .bool pend] :: os.set k (.grid p 58 cols (rowMod i (putC at_ x) L1))) from by rw [← HOS1.out]; exact hS)
      clear hS S14
      obtain ⟨os2, hos2⟩ : ∃ os2, os2 = os.set k (.grid p 58 cols (rowMod i (putC at_ x) L1)) := ⟨_, rfl⟩
      have HK2 := Lib.hid (show os2[k]? = some (.grid p 58 cols (rowMod i (putC at_ x) L1)) by rw [hos2]; exact set_at HK.out)
      have HOS := Lib.hid hos2
      have S19 := Lib.hid (show Objs w0 _ (.box b18 71 (cv x) :: .box b12 48 #[.int .i64 0, .int .i64 0, .bool false] :: .box b9 54 (pv q) :: .box b7 48 #[.int .i64 ↑i, .int .i64 ↑j, .bool pend] :: os2) from by rw [hos2]; exact S15.out)
      clear hos2 S15
      have hw18 := (S19.out.box (k := 0) rfl).width4
      have hwa := HWA.out
      go_wp2_with fail
      clear hw18 hwa
      refine (Cols_any S19.out (k := k + 4) HK2.out).mono ?_
      rintro e w8 ⟨rfl, hS⟩
      have S20 := Lib.hid hS
      clear hS S19
      by_cases hend : (at_ : Int) + x.width < cols
      ·have d1 : decide ((at_ : Int) + x.width < (cols : Int)) = true := decide_eq_true hend
       have HP1 := Lib.hid (show ((prCol cols at_ x : Nat) : Int) = (at_ : Int) + x.width by unfold prCol; rw [if_pos (by have := HXN.out; omega)]; have := HXN.out; omega)
       have HP2 := Lib.hid (show prPend cols at_ x auto = false by unfold prPend; rw [if_pos (by have := HXN.out; omega)])
       obtain ⟨hx7, hf7, hz7⟩ := (S20.out.box (k := 3) rfl).facts
       obtain ⟨hx12, hf12, hz12⟩ := (S20.out.box (k := 1) rfl).facts
       have SF := Lib.hid (S20.out.setCur 1 (r := ↑i) (c := ↑at_ + x.width) (b := false) rfl)
       clear hend
       go_wp2_with fail
       refine bodyPost_ret (results_ct Tryd.results38 _ _ b12 _ _ rfl (SF.out.box (k := 1) rfl) Tryd.underlying48 rfl pcursor_size) rfl ?_
       exact ⟨by rw [HXC.out, HAT.out, HP1.out, HP2.out]; rfl, by rw [HFIN.out, ← HOS.out]; exact SF.out.tail.tail.tail.tail⟩
      ·have d1 : decide ((at_ : Int) + x.width < (cols : Int)) = false := decide_eq_false hend
       have HP1 := Lib.hid (show ((prCol cols at_ x : Nat) : Int) = (cols : Int) - 1 by unfold prCol; rw [if_neg (by have := HXN.out; omega)]; omega)
       have HP2 := Lib.hid (show prPend cols at_ x auto = auto by unfold prPend; rw [if_neg (by have := HXN.out; omega)])
       clear hend
       go_upto_region 26 with (fail)
       refine wp_region_stage (w0 := w0) (os := os2) (by kernel_rfl) (by kernel_rfl) (by kernel_rfl) [(1, 7, [], fun vs => .box b12 48 #[.int .i64 ↑i, .int .i64 (↑cols - 1), .bool auto])] [[], [3], [], [], [], [], [], [1], []] [.box b18 71 (cv x), .box b12 48 #[.int .i64 0, .int .i64 0, .bool false], .box b9 54 (pv q), .box b7 48 #[.int .i64 ↑i, .int .i64 ↑j, .bool pend]] (fun opn u => match opn with | 0 => u = pt b7 0 | 1 => u = .int .i64 ↑i | 2 => u = pt p 0 | 3 => u = .int .i64 ↑cols | 4 => u = .int .i64 (↑cols - 1) | 5 => u = .bool auto | 6 => u = .agg #[.int .i64 ↑i, .int .i64 (↑cols - 1), .bool auto] | 7 => True | 8 => u = .int .i64 0 | _ => True) (fun vs => [.box b18 71 (cv x), .box b12 48 #[.int .i64 ↑i, .int .i64 (↑cols - 1), .bool auto], .box b9 54 (pv q), .box b7 48 #[.int .i64 ↑i, .int .i64 ↑j, .bool pend]]) (by kernel_rfl) (fun vs => by rfl) S20.out ?_ ?_
       ·apply sc
        ·intro a w' vs σ hS hl hs hk
         have f7 : a.tmps[7]?.getD undef = .pointer (some ⟨b7, 0, none⟩) := sof hk
         exact rp (pt b7 0) (by simp [execOp, Act.eval, f7, go_sem]) hl hs hS
        apply sc
        ·intro a w' vs σ hS hl hs hk
         have f111 : a.tmps[111]?.getD undef = .pointer (some ⟨b7, 0, none⟩) := sf hk 0
         have hx := (hS.box (sg (hs 3 (by decide)))).cell
         exact rp (.int .i64 ↑i) (by simp [execOp, Act.eval, f111, go_sem, hx]) hl hs hS
        apply sc
        ·intro a w' vs σ hS hl hs hk
         have f0 : a.tmps[0]?.getD undef = .pointer (some ⟨p, 0, none⟩) := sof hk
         exact rp (pt p 0) (by simp [execOp, Act.eval, f0, go_sem]) hl hs hS
        apply sc
        ·intro a w' vs σ hS hl hs hk
         have e113 : a.tmps.getD 113 undef = .pointer (some ⟨p, 0, none⟩) := sv hk 2
         exact ro_call (f := 18) (wanted_none rfl) rfl (by simp only [List.map_toArray, List.map_cons, List.map_nil, Act.eval, e113] <;> rfl) (fun _ _ => by kernel_rfl) ((Cols_any hS (k := k + 4) (by simpa using tg4b hl HK2.out)).mono fun e w2 ⟨h1, h2⟩ => ⟨_, h1, sp_same (by kernel_rfl) hl hs h2 rfl, trivial⟩)
        apply sc
        ·intro a w' vs σ hS hl hs hk
         have f114 : a.tmps[114]?.getD undef = .int .i64 ↑cols := sf hk 3
         exact rp (.int .i64 (↑cols - 1)) (by simp [execOp, Act.eval, f114, go_sem, HWC.out]) hl hs hS
        apply sc
        ·intro a w' vs σ hS hl hs hk
         have f4 : a.tmps[4]?.getD undef = .bool auto := sof hk
         exact rp (.bool auto) (by simp [execOp, Act.eval, f4, go_sem]) hl hs hS
        apply sc
        ·intro a w' vs σ hS hl hs hk
         have f112 : a.tmps[112]?.getD undef = .int .i64 ↑i := sf hk 1
         have f115 : a.tmps[115]?.getD undef = .int .i64 (↑cols - 1) := sf hk 4
         have f116 : a.tmps[116]?.getD undef = .bool auto := sf hk 5
         exact rp (.agg #[.int .i64 ↑i, .int .i64 (↑cols - 1), .bool auto]) (by simp [execOp, Act.eval, f112, f115, f116, go_sem]) hl hs hS
        apply sc
        ·intro a w' vs σ hS hl hs hk
         have f12 : a.tmps[12]?.getD undef = .pointer (some ⟨b12, 0, none⟩) := sof hk
         have f117 : a.tmps[117]?.getD undef = .agg #[.int .i64 ↑i, .int .i64 (↑cols - 1), .bool auto] := sf hk 6
         have h1 : σ[1]? = some (.box b12 48 #[.int .i64 0, .int .i64 0, .bool false]) := hs 1 (by decide)
         obtain ⟨hx, hf, hz⟩ := (hS.box (sg h1)).facts
         exact rstep_store (w2 := ((w'.setCell ⟨b12, 0, none⟩ (.int .i64 ↑i)).setCell ⟨b12, 1, none⟩ (.int .i64 (↑cols - 1))).setCell ⟨b12, 2, none⟩ (.bool auto)) (wanted_none rfl) rfl (by simp [execOp, Act.eval, f12, f117, hx, hf, hz, go_sem]) (sp_set 1 (.box b12 48 #[.int .i64 ↑i, .int .i64 (↑cols - 1), .bool auto]) (by kernel_rfl) (by simp) (by decide) hl hs (by rfl) (hS.setCur 1 (sg h1)) trivial) trivial
        apply sc
        ·intro a w' vs σ hS hl hs hk
         exact rp (.int .i64 0) (by simp [execOp, Act.eval, go_sem]) hl hs hS
        exact SSteps.nil
       ·intro vs w' hS hv
        have q0 : vs 0 = _ := hv 0 (by decide)
        have q1 : vs 1 = _ := hv 1 (by decide)
        have q2 : vs 2 = _ := hv 2 (by decide)
        have q3 : vs 3 = _ := hv 3 (by decide)
        have q4 : vs 4 = _ := hv 4 (by decide)
        have q5 : vs 5 = _ := hv 5 (by decide)
        have q6 : vs 6 = _ := hv 6 (by decide)
        have q8 : vs 8 = _ := hv 8 (by decide)
        have S2 := Lib.hid hS
        simp only [putL, Act.put, Nat.zero_add, Nat.reduceAdd, List.setIfInBounds_toArray, List.set_cons_succ, List.set_cons_zero, q0, q1, q2, q3, q4, q5, q6, q8]
        clear hS hv q0 q1 q2 q3 q4 q5 q6 q8
        have SF := S2
        clear S2
        go_wp2_with fail
        refine bodyPost_ret (results_ct Tryd.results38 _ _ b12 _ _ rfl (SF.out.box (k := 1) rfl) Tryd.underlying48 rfl pcursor_size) rfl ?_
        exact ⟨by rw [HXC.out, HAT.out, HP1.out, HP2.out]; rfl, by rw [HFIN.out, ← HOS.out]; exact SF.out.tail.tail.tail.tail⟩
end
end Go.Proofs.YtppijfjigcoifaaDoor

namespace Go.Proofs.YtppijfjigcoifaaDoor
open Go.RowKit

section
variable {w0 w : World} {os : List Ob} {k p cols : Nat} {L : List Ln}
end
end Go.Proofs.YtppijfjigcoifaaDoor

namespace Go.Proofs.YtppijfjigcoifaaDoor
open Go.RowKit

def befN (cs : List Cell) (c : Nat) : Nat := if 1 ≤ c ∧ (cAt cs c).width = 0 then c - 1 else c
def mkB (cs : List Cell) (c : Nat) (r : Int) : Bool := !decide ((cAt cs (befN cs c)).rune = 0) && decide ((markOf (cAt cs (befN cs c)) r).2 = 0)
def mkRow (c : Nat) (r : Int) (cs : List Cell) : List Cell := if mkB cs c r = true then cs.set (befN cs c) (markOf (cAt cs (befN cs c)) r).1 else cs
theorem wr_no {c : Cell} (h : c.rune = 0) (w : World) : Calls Tryd.prog 79 #[.agg (cv c)] w fun e w' => e = .returned (.bool false) ∧ Below w.heap.size w w' := by
 have := cellWritten_any c w
 rwa [show (!decide (c.rune = 0)) = false by simp [h]] at this
theorem wr_yes {c : Cell} (h : ¬ c.rune = 0) (w : World) : Calls Tryd.prog 79 #[.agg (cv c)] w fun e w' => e = .returned (.bool true) ∧ Below w.heap.size w w' := by
 have := cellWritten_any c w
 rwa [show (!decide (c.rune = 0)) = true by simp [h]] at this
theorem or2 {P Q G : Prop} (h : P ∨ Q) (a2 : P → G) (b2 : Q → G) : G := h.elim a2 b2
section
variable {cs : List Cell} {c : Nat} {r : Int} {y : Cell}
theorem mark_keeps {x : Cell} (h : markOf x r = (y, 0)) : y.width = x.width ∧ y.pen = x.pen ∧ x.ok = true := by
 unfold markOf at h
 split at h
 ·cases h
 ·next hn =>
  have ho : x.ok = true := by cases hx : x.ok; exact absurd (.inl hx) hn; rfl
  split at h
  ·cases h
  ·split at h
   ·obtain ⟨rfl, -⟩ := Prod.mk.inj h; exact ⟨rfl, rfl, ho⟩
   ·split at h
    ·obtain ⟨rfl, -⟩ := Prod.mk.inj h; exact ⟨rfl, rfl, ho⟩
    ·split at h
     ·obtain ⟨rfl, -⟩ := Prod.mk.inj h; exact ⟨rfl, rfl, ho⟩
     ·cases h
theorem bef_facts (h : RowV cs) (hc : c < cs.length) : befN cs c < cs.length ∧ ¬ (cAt cs (befN cs c)).width = 0 ∧ ((befN cs c : Nat) : Int) + (cAt cs (befN cs c)).width ≤ cs.length := by
 have key : ∀ k, k < cs.length → ¬ (cAt cs k).width = 0 → (k : Int) + (cAt cs k).width ≤ cs.length := fun k hk hw => by
  rcases ok_width (h k hk).ok with e | e | e
  ·exact absurd e hw
  ·rw [e]; omega
  ·have := (h k hk).last e; rw [e]; omega
 unfold befN
 by_cases h1 : 1 ≤ c ∧ (cAt cs c).width = 0
 ·rw [if_pos h1]
  have h2 := (h c hc).zero.1 h1.2
  exact ⟨by omega, by omega, key _ (by omega) (by omega)⟩
 ·rw [if_neg h1]
  have h2 : ¬ (cAt cs c).width = 0 := fun e => by
   have := (h c hc).zero.1 e
   exact h1 ⟨this.1, e⟩
  exact ⟨hc, h2, key c hc h2⟩
theorem bef_zero (h : RowV cs) (hc : c < cs.length) (h0 : (cAt cs c).width = 0) : 1 ≤ c ∧ befN cs c = c - 1 := by
 have := (h c hc).zero.1 h0
 exact ⟨this.1, by unfold befN; rw [if_pos ⟨this.1, h0⟩]⟩
theorem bef_not (h0 : ¬ (cAt cs c).width = 0) : befN cs c = c := by unfold befN; rw [if_neg (fun h => h0 h.2)]
theorem mark_put (h : RowV cs) (hj : c < cs.length) (h0 : ¬ (cAt cs c).width = 0) (hm : markOf (cAt cs c) r = (y, 0)) : putC c y cs = cs.set c y := by
 obtain ⟨h1, h2, h3⟩ := mark_keeps hm
 exact putC_same h hj h0 h1 h2 (fun i hi hz => zero_spacer (h i hi).ok hz)
theorem cAt_get (hc : c < cs.length) : cs[c]? = some (cAt cs c) := by rw [List.getElem?_eq_getElem hc, cAt_eq hc]
end
section
variable {w0 w : World} {os : List Ob} {k p cols : Nat} {L : List Ln}
set_option maxHeartbeats 4000000 in
theorem Mark_bad (row col : Int) (pend : Bool) (r : Int) (hT : Tabs w0) (hS : Objs w0 w os) (hk : os[k]? = some (.grid p 58 cols L)) (hc : 0 < cols) (hcm : cols ≤ 1000) (hL : 0 < L.length) (hin : inG row col pend L.length cols = true) (hw : ¬ wOf r = 0) :
  Calls Tryd.prog 40 #[.pointer (some ⟨p, 0, none⟩), .agg #[.int .i64 row, .int .i64 col, .bool pend], .int .i32 r] w fun e w' => e = .returned (.tuple #[.bool false, .int .i64 2]) ∧ Objs w0 w' os := by
 have S0 := Lib.hid hS
 have HK := Lib.hid hk
 clear hS hk
 have HT := Lib.hid hT
 have HE := Lib.hid (show chkE row col pend L.length cols = 0 by unfold chkE; rw [hin]; rfl)
 obtain ⟨n, hn⟩ : ∃ n, wOf r = n := ⟨_, rfl⟩
 have HW := Lib.hid hn
 rw [hn] at hw
 have hbn := bne_yes hw
 clear hin hT hn hw
 go_enter Tryd.func40, Tryd.ntmps40
 go_upto_region 1 with (fail)
 refine at_objsC (S0.out.alloc1 (c1 := #[.int .i64 row, .int .i64 col, .bool pend]) (t1 := 48)) (fun W hW => ?_)
 generalize w.heap.size = b4 at hW ⊢
 have S1 := Lib.hid hW
 clear hW S0
 obtain ⟨hx4, hf4, hz4⟩ := (S1.out.box (k := 0) rfl).facts
 go_wp2_with fail
 clear hx4 hf4 hz4
 have hcon := prcheck_any row col pend S1.out (k := k + 1) HK.out hc hcm hL
 rw [HE.out] at hcon
 refine hcon.mono ?_
 rintro e w1 ⟨rfl, hS⟩
 have S2 := Lib.hid hS
 clear hS hcon S1
 go_wp2_with fail
 refine (width_is HW.out _ (S2.out.tabs HT.out)).mono ?_
 rintro e w2 ⟨rfl, hb⟩
 have S3 := Lib.hid (S2.out.bel hb)
 clear hb S2
 go_wp2_with fail
 go_ret2
 exact ⟨rfl, S3.out.tail⟩
set_option maxHeartbeats 4000000 in
theorem Mark_front (row : Int) (r : Int) (hT : Tabs w0) (hS : Objs w0 w os) (hk : os[k]? = some (.grid p 58 cols L)) (hc : 0 < cols) (hcm : cols ≤ 1000) (hL : 0 < L.length) (hin : inG row 0 false L.length cols = true) (hw : wOf r = 0) :
  Calls Tryd.prog 40 #[.pointer (some ⟨p, 0, none⟩), .agg #[.int .i64 row, .int .i64 0, .bool false], .int .i32 r] w fun e w' => e = .returned (.tuple #[.bool false, .int .i64 0]) ∧ Objs w0 w' os := by
 have S0 := Lib.hid hS
 have HK := Lib.hid hk
 clear hS hk
 have HT := Lib.hid hT
 have HE := Lib.hid (show chkE row 0 false L.length cols = 0 by unfold chkE; rw [hin]; rfl)
 have HW := Lib.hid hw
 clear hin hT hw
 go_enter Tryd.func40, Tryd.ntmps40
 go_upto_region 1 with (fail)
 refine at_objsC (S0.out.alloc1 (c1 := #[.int .i64 row, .int .i64 0, .bool false]) (t1 := 48)) (fun W hW => ?_)
 generalize w.heap.size = b4 at hW ⊢
 have S1 := Lib.hid hW
 clear hW S0
 obtain ⟨hx4, hf4, hz4⟩ := (S1.out.box (k := 0) rfl).facts
 go_wp2_with fail
 clear hx4 hf4 hz4
 have hcon := prcheck_any row 0 false S1.out (k := k + 1) HK.out hc hcm hL
 rw [HE.out] at hcon
 refine hcon.mono ?_
 rintro e w1 ⟨rfl, hS⟩
 have S2 := Lib.hid hS
 clear hS hcon S1
 go_wp2_with fail
 refine (width_is HW.out _ (S2.out.tabs HT.out)).mono ?_
 rintro e w2 ⟨rfl, hb⟩
 have S3 := Lib.hid (S2.out.bel hb)
 clear hb S2
 obtain ⟨hx4, hf4, hz4⟩ := (S3.out.box (k := 0) rfl).facts
 go_wp2_with fail
 go_ret2
 exact ⟨rfl, S3.out.tail⟩
set_option maxRecDepth 100000 in
set_option maxHeartbeats 8000000 in
theorem Mark_at {i c0 : Nat} {l : Ln} (col : Int) (pend : Bool) (r : Int) (hT : Tabs w0) (hS : Objs w0 w os) (hk : os[k]? = some (.grid p 58 cols L)) (hc : 0 < cols) (hcm : cols ≤ 1000) (hL : 0 < L.length) (hR : Rect cols L) (hin : inG i col pend L.length cols = true) (hw : wOf r = 0) (hcol : (pend = true ∧ col = (c0 : Int)) ∨ (pend = false ∧ col = (c0 : Int) + 1)) (hl : L[i]? = some l) (hV : RowV l.1) :
  Calls Tryd.prog 40 #[.pointer (some ⟨p, 0, none⟩), .agg #[.int .i64 ↑i, .int .i64 col, .bool pend], .int .i32 r] w fun e w' => e = .returned (.tuple #[.bool (mkB l.1 c0 r), .int .i64 0]) ∧ Objs w0 w' (os.set k (.grid p 58 cols (rowMod i (mkRow c0 r) L))) := by
 have S0 := Lib.hid hS
 have HK := Lib.hid hk
 clear hS hk
 have HT := Lib.hid hT
 have HR := Lib.hid hR
 have HE := Lib.hid (show chkE i col pend L.length cols = 0 by unfold chkE; rw [hin]; rfl)
 have HW := Lib.hid hw
 have HL := Lib.hid hl
 have hing := ingrid_iff.1 hin
 have hll : l.1.length = cols := hR.at_ hl
 have hj0 : c0 < cols := by rcases hcol with h | h <;> omega
 have hi : i < L.length := by omega
 obtain ⟨c1, hc1⟩ : ∃ c1, befN l.1 c0 = c1 := ⟨_, rfl⟩
 obtain ⟨x0, hx0⟩ : ∃ x0, cAt l.1 c0 = x0 := ⟨_, rfl⟩
 obtain ⟨x1, hx1⟩ : ∃ x1, cAt l.1 c1 = x1 := ⟨_, rfl⟩
 obtain ⟨hj1, hw1, hf1⟩ := bef_facts hV (c := c0) (by omega)
 rw [hc1] at hj1 hw1 hf1
 rw [hx1] at hw1 hf1
 rw [hll] at hj1 hf1
 have HX0 := Lib.hid (show l.1[c0]? = some x0 by rw [← hx0]; exact cAt_get (by omega))
 have HX1 := Lib.hid (show l.1[c1]? = some x1 by rw [← hx1]; exact cAt_get (by omega))
 have HZ := Lib.hid (show x0.width = 0 → c0 = c1 + 1 from fun h => by have := bef_zero hV (c := c0) (by omega) (by rw [hx0]; exact h); omega)
 have HN := Lib.hid (show ¬ x0.width = 0 → c1 = c0 ∧ x1 = x0 by
  intro h
  have h2 := bef_not (cs := l.1) (c := c0) (by rw [hx0]; exact h)
  have e : c1 = c0 := by omega
  exact ⟨e, by rw [← hx1, ← hx0, e]⟩)
 have HP := Lib.hid (show ∀ y, markOf x1 r = (y, 0) → putC c1 y l.1 = l.1.set c1 y from fun y hy => mark_put hV (by omega) (by rw [hx1]; exact hw1) (by rw [hx1]; exact hy))
 have HB := Lib.hid (show mkB l.1 c0 r = (!decide (x1.rune = 0) && decide ((markOf x1 r).2 = 0)) by unfold mkB; rw [hc1, hx1])
 have HM := Lib.hid (show mkRow c0 r l.1 = if mkB l.1 c0 r = true then l.1.set c1 (markOf x1 r).1 else l.1 by unfold mkRow; rw [hc1, hx1])
 have HW1 := Lib.hid hw1
 have HF1 := Lib.hid hf1
 have HOK := Lib.hid (show x1.ok = true by rw [← hx1]; exact (hV c1 (by omega)).ok)
 have hng : decide ((c0 : Int) < 0) = false := decide_eq_false (by omega)
 clear hT hR hin hw hing hc1 hx0 hx1 hw1 hf1 hV hl
 refine or2 hcol (fun h7 => ?q1) (fun h7 => ?q2)
 case' q1 =>
  clear hcol
  obtain ⟨rfl, rfl⟩ := h7
  go_enter Tryd.func40, Tryd.ntmps40
  go_upto_region 1 with (fail)
  refine at_objsC (S0.out.alloc1 (c1 := #[.int .i64 ↑i, .int .i64 ↑c0, .bool true]) (t1 := 48)) (fun W hW => ?_)
  generalize w.heap.size = b4 at hW ⊢
  have S1 := Lib.hid hW
  clear hW S0
  obtain ⟨hx4, hf4, hz4⟩ := (S1.out.box (k := 0) rfl).facts
  go_wp2_with fail
  clear hx4 hf4 hz4
  have hcon := prcheck_any ↑i ↑c0 true S1.out (k := k + 1) HK.out hc hcm hL
  rw [HE.out] at hcon
  refine hcon.mono ?_
  rintro e w1 ⟨rfl, hS⟩
  have S2 := Lib.hid hS
  clear hS hcon S1
  go_wp2_with fail
  refine (width_is HW.out _ (S2.out.tabs HT.out)).mono ?_
  rintro e w2 ⟨rfl, hb⟩
  have S3 := Lib.hid (S2.out.bel hb)
  clear hb S2
  obtain ⟨hx4, hf4, hz4⟩ := (S3.out.box (k := 0) rfl).facts
  go_upto_region 11 with (fail)
  clear hx4 hf4 hz4
 case' q2 =>
  clear hcol
  obtain ⟨rfl, h7⟩ := h7
  have HJ := Lib.hid (show IntKind.i64.wrap (col - 1) = (c0 : Int) by rw [IntWalk.i64_in _ (by omega)]; omega)
  clear h7
  go_enter Tryd.func40, Tryd.ntmps40
  go_upto_region 1 with (fail)
  refine at_objsC (S0.out.alloc1 (c1 := #[.int .i64 ↑i, .int .i64 col, .bool false]) (t1 := 48)) (fun W hW => ?_)
  generalize w.heap.size = b4 at hW ⊢
  have S1 := Lib.hid hW
  clear hW S0
  obtain ⟨hx4, hf4, hz4⟩ := (S1.out.box (k := 0) rfl).facts
  go_wp2_with fail
  clear hx4 hf4 hz4
  have hcon := prcheck_any ↑i col false S1.out (k := k + 1) HK.out hc hcm hL
  rw [HE.out] at hcon
  refine hcon.mono ?_
  rintro e w1 ⟨rfl, hS⟩
  have S2 := Lib.hid hS
  clear hS hcon S1
  go_wp2_with fail
  refine (width_is HW.out _ (S2.out.tabs HT.out)).mono ?_
  rintro e w2 ⟨rfl, hb⟩
  have S3 := Lib.hid (S2.out.bel hb)
  clear hb S2
  obtain ⟨hx4, hf4, hz4⟩ := (S3.out.box (k := 0) rfl).facts
  have hwj := HJ.out
  go_upto_region 11 with (fail)
  clear hwj
  clear hx4 hf4 hz4
 all_goals
  clear hng
  obtain ⟨cj, pd, S4⟩ : ∃ (cj : Int) (pd : Bool), Hid (Objs w0 _ (.box b4 48 #[.int .i64 ↑i, .int .i64 cj, .bool pd] :: os)) := ⟨_, _, S3⟩
  clear S3
  obtain ⟨hx4, hf4, hz4⟩ := (S4.out.box (k := 0) rfl).facts
  go_wp2_with fail
  clear hx4 hf4 hz4
  refine (Cell_yes (i := i) (j := c0) (x := x0) S4.out (k := k + 1) HK.out hc hj0 HL.out HX0.out).mono ?_
  rintro e w5 ⟨rfl, hS⟩
  have S5 := Lib.hid hS
  clear hS S4
  go_upto_region 12 with (fail)
  refine at_objsC (S5.out.alloc1 (c1 := cv x0) (t1 := 71)) (fun W hW => ?_)
  generalize w5.heap.size = b10 at hW ⊢
  have S6 := Lib.hid hW
  clear hW S5
  obtain ⟨hx4, hf4, hz4⟩ := (S6.out.box (k := 1) rfl).facts
  have hw10 := (S6.out.box (k := 0) rfl).width4
  obtain ⟨-, hf10, hz10⟩ := (S6.out.box (k := 0) rfl).facts
  apply or2 (Classical.em (x0.width = 0))
  case' a2 =>
   intro h0
   obtain rfl := HZ.out h0
   have hb0 := beq_yes h0
   have hwj : IntKind.i64.wrap (((c1 + 1 : Nat) : Int) - 1) = (c1 : Int) := by rw [IntWalk.i64_in _ (by omega)]; omega
   clear h0
   go_wp2_with fail
   clear hb0 hwj hx4 hf4 hz4 hw10 hf10 hz10
   refine (Cell_yes (i := i) (j := c1) (x := x1) S6.out (k := k + 2) HK.out hc hj1 HL.out HX1.out).mono ?_
   rintro e w6 ⟨rfl, hS⟩
   have hst := store_cv_row w6 b10 (cv x0) x1 (hS.box (k := 0) rfl) (cv_size _)
   have S7 := Lib.hid (show Objs w0 (w6.setRow b10 (cv x1)) (.box b10 71 (cv x1) :: .box b4 48 #[.int .i64 ↑i, .int .i64 cj, .bool pd] :: os) from hS.rowBox 0 (ds := cv x1) rfl)
   clear hS S6
   go_upto_region 15 with (fail)
   clear hst
  case' b2 =>
   intro h0
   obtain ⟨rfl, rfl⟩ := HN.out h0
   have hb0 := beq_no h0
   clear h0
   go_upto_region 15 with (fail)
   clear hb0 hx4 hf4 hz4 hw10 hf10 hz10
   have S7 := S6
   clear S6
  all_goals
   as_aux_lemma =>
    have hc10 := (S7.out.box (k := 0) rfl).cellAt
    have hz10 := (S7.out.box (k := 0) rfl).lt
    go_wp2_with fail
    clear hc10 hz10
    by_cases hr : x1.rune = 0
    ·have HF := Lib.hid (show mkB l.1 _ r = false by rw [HB.out]; simp [hr])
     refine (wr_no hr _).mono ?_
     rintro e w8 ⟨rfl, hb⟩
     have S8 := Lib.hid (S7.out.bel hb)
     clear hb S7 hr
     go_wp2_with fail
     go_ret2
     exact ⟨by rw [HF.out]; rfl, by rw [rowMod_some HL.out, HM.out, HF.out, if_neg (by simp), show ((l.1, l.2) : Ln) = l from rfl, set_self HL.out, set_self HK.out]; exact S8.out.tail.tail⟩
    ·refine (wr_yes hr _).mono ?_
     rintro e w8 ⟨rfl, hb⟩
     have S8 := Lib.hid (S7.out.bel hb)
     clear hb S7
     obtain ⟨y, er, hm⟩ : ∃ y er, markOf x1 r = (y, er) := ⟨_, _, rfl⟩
     have HMK := Lib.hid hm
     have HB2 := Lib.hid (show mkB l.1 _ r = decide (er = 0) by rw [HB.out, hm]; simp [hr])
     clear hr hm
     have hc10 := (S8.out.box (k := 0) rfl).cellAt
     have hz10 := (S8.out.box (k := 0) rfl).lt
     go_wp2_with fail
     clear hc10 hz10
     have hcon := cellMark_any x1 r _ (S8.out.tabs HT.out)
     unfold MarkEnd at hcon
     rw [HMK.out] at hcon
     refine hcon.mono ?_
     rintro e w9 ⟨rfl, hb⟩
     have S9 := Lib.hid (S8.out.bel hb)
     clear hb S8 hcon
     go_upto_region 20 with (fail)
     refine at_objsC (S9.out.alloc1 (c1 := cv y) (t1 := 71)) (fun W2 hW2 => ?_)
     generalize w9.heap.size = b12 at hW2 ⊢
     have SA := Lib.hid hW2
     clear hW2 S9
     by_cases he : er = 0
     ·subst he
      have HT1 := Lib.hid (show mkB l.1 _ r = true by rw [HB2.out]; rfl)
      obtain ⟨hk1, hk2, -⟩ := mark_keeps HMK.out
      have HYO := Lib.hid (mark_holds HOK.out HMK.out).1
      have HYW := Lib.hid (show ¬ y.width = 0 by rw [hk1]; exact HW1.out)
      have HYF := Lib.hid (show (c1 : Int) + y.width ≤ cols by rw [hk1]; exact HF1.out)
      clear hk1 hk2
      obtain ⟨hx4, hf4, hz4⟩ := (SA.out.box (k := 2) rfl).facts
      have hc12 := (SA.out.box (k := 0) rfl).cellAt
      have hz12 := (SA.out.box (k := 0) rfl).lt
      go_wp2_with fail
      clear hx4 hf4 hz4 hc12 hz12
      refine (PutG (i := i) (j := c1) y HT.out SA.out (k := k + 3) HK.out hcm HR.out hi HYO.out HYW.out HYF.out).mono ?_
      rintro e wA ⟨rfl, hS⟩
      have SB := Lib.hid hS
      clear hS SA
      go_wp2_with fail
      go_ret2
      refine ⟨by rw [HT1.out]; rfl, ?_⟩
      have hfin := SB.out.tail.tail.tail
      rw [rowMod_some HL.out, HP.out y HMK.out] at hfin
      rw [rowMod_some HL.out, HM.out, HT1.out, if_pos rfl, HMK.out]
      exact hfin
     ·have HF := Lib.hid (show mkB l.1 _ r = false by rw [HB2.out]; exact decide_eq_false he)
      have hbe := bne_yes he
      clear he
      go_wp2_with fail
      go_ret2
      exact ⟨by rw [HF.out]; rfl, by rw [rowMod_some HL.out, HM.out, HF.out, if_neg (by simp), show ((l.1, l.2) : Ln) = l from rfl, set_self HL.out, set_self HK.out]; exact SA.out.tail.tail.tail⟩
end
end Go.Proofs.YtppijfjigcoifaaDoor

namespace Go.Proofs.YtppijfjigcoifaaDoor
open Go.RowKit

section
variable {w0 w : World} {os : List Ob} {k p cols : Nat} {L : List Ln}
end
end Go.Proofs.YtppijfjigcoifaaDoor

namespace Go.Proofs.YtppijfjigcoifaaDoor
open Go.RowKit

section
variable {w0 w : World} {os os2 : List Ob} {gp : Value}
set_option maxHeartbeats 4000000 in
theorem l16prints_true {row col r1 c1 r er : Int} {pend auto ins b1 : Bool} {q : Pen} (hS : Objs w0 w os)
  (hcon : ∀ (bs : List Ob) (W : World), bs.length = 3 → Objs w0 W (bs ++ os) → Calls Tryd.prog 38 #[gp, .agg #[.int .i64 row, .int .i64 col, .bool pend], .int .i32 r, .agg (pv q), .bool auto, .bool ins] W fun e w' => e = .returned (.tuple #[.agg #[.int .i64 r1, .int .i64 c1, .bool b1], .int .i64 er]) ∧ Objs w0 w' (bs ++ os2)) :
  Calls Tryd.prog 27 #[gp, .agg #[.int .i64 row, .int .i64 col, .bool pend], .int .i32 r, .agg (pv q), .bool auto, .bool ins, .agg #[.int .i64 r1, .int .i64 c1, .bool b1], .int .i64 er] w fun e w' => e = .returned (.bool true) ∧ Objs w0 w' os2 := by
 have S0 := Lib.hid hS
 have HC := Lib.hid hcon
 clear hS hcon
 go_enter Tryd.func27, Tryd.ntmps27
 go_upto_region 1 with (fail)
 refine at_objsC (S0.out.alloc3 (c1 := #[.int .i64 row, .int .i64 col, .bool pend]) (t1 := 48) (c2 := pv q) (t2 := 54) (c3 := #[.int .i64 r1, .int .i64 c1, .bool b1]) (t3 := 48)) (fun W hW => ?_)
 generalize w.heap.size + 1 + 1 = b14 at hW ⊢
 generalize w.heap.size + 1 = b11 at hW ⊢
 generalize w.heap.size = b9 at hW ⊢
 have S1 := Lib.hid hW
 clear hW S0
 obtain ⟨hx9, hf9, hz9⟩ := (S1.out.box (k := 2) rfl).facts
 have hp11 := (S1.out.box (k := 1) rfl).penAt
 have hp11z := (S1.out.box (k := 1) rfl).lt
 go_wp2_with fail
 clear hx9 hf9 hz9 hp11 hp11z
 refine (HC.out [_, _, _] _ rfl S1.out).mono ?_
 rintro e w1 ⟨rfl, hS⟩
 have S2 := Lib.hid (show Objs w0 w1 (.box b14 48 #[.int .i64 r1, .int .i64 c1, .bool b1] :: .box b11 54 (pv q) :: .box b9 48 #[.int .i64 row, .int .i64 col, .bool pend] :: os2) from hS)
 clear hS S1
 go_upto_region 2 with (fail)
 refine at_objsC (S2.out.alloc1 (c1 := #[.int .i64 r1, .int .i64 c1, .bool b1]) (t1 := 48)) (fun W2 hW2 => ?_)
 generalize w1.heap.size = b17 at hW2 ⊢
 have S3 := Lib.hid hW2
 clear hW2 S2
 obtain ⟨hx17, hf17, hz17⟩ := (S3.out.box (k := 0) rfl).facts
 obtain ⟨hx14, hf14, hz14⟩ := (S3.out.box (k := 1) rfl).facts
 go_wp2_with fail
 go_ret
 exact ⟨rfl, S3.out.tail.tail.tail.tail⟩
set_option maxHeartbeats 4000000 in
theorem l16wraps_true {row col r er : Int} {pend auto b1 : Bool} (hS : Objs w0 w os)
  (hcon : ∀ (bs : List Ob) (W : World), bs.length = 1 → Objs w0 W (bs ++ os) → Calls Tryd.prog 37 #[gp, .agg #[.int .i64 row, .int .i64 col, .bool pend], .int .i32 r, .bool auto] W fun e w' => e = .returned (.tuple #[.bool b1, .int .i64 er]) ∧ Objs w0 w' (bs ++ os2)) :
  Calls Tryd.prog 28 #[gp, .agg #[.int .i64 row, .int .i64 col, .bool pend], .int .i32 r, .bool auto, .bool b1, .int .i64 er] w fun e w' => e = .returned (.bool true) ∧ Objs w0 w' os2 := by
 have S0 := Lib.hid hS
 have HC := Lib.hid hcon
 clear hS hcon
 go_enter Tryd.func28, Tryd.ntmps28
 go_upto_region 1 with (fail)
 refine at_objsC (S0.out.alloc1 (c1 := #[.int .i64 row, .int .i64 col, .bool pend]) (t1 := 48)) (fun W hW => ?_)
 generalize w.heap.size = b9 at hW ⊢
 have S1 := Lib.hid hW
 clear hW S0
 obtain ⟨hx9, hf9, hz9⟩ := (S1.out.box (k := 0) rfl).facts
 go_wp2_with fail
 clear hx9 hf9 hz9
 refine (HC.out [_] _ rfl S1.out).mono ?_
 rintro e w1 ⟨rfl, hS⟩
 have S2 := Lib.hid (show Objs w0 w1 (.box b9 48 #[.int .i64 row, .int .i64 col, .bool pend] :: os2) from hS)
 clear hS S1
 go_wp2_with fail
 go_ret
 exact ⟨rfl, S2.out.tail⟩
set_option maxHeartbeats 4000000 in
theorem l16marks_true {row col r er : Int} {pend b1 : Bool} (hS : Objs w0 w os)
  (hcon : ∀ (bs : List Ob) (W : World), bs.length = 1 → Objs w0 W (bs ++ os) → Calls Tryd.prog 40 #[gp, .agg #[.int .i64 row, .int .i64 col, .bool pend], .int .i32 r] W fun e w' => e = .returned (.tuple #[.bool b1, .int .i64 er]) ∧ Objs w0 w' (bs ++ os2)) :
  Calls Tryd.prog 29 #[gp, .agg #[.int .i64 row, .int .i64 col, .bool pend], .int .i32 r, .bool b1, .int .i64 er] w fun e w' => e = .returned (.bool true) ∧ Objs w0 w' os2 := by
 have S0 := Lib.hid hS
 have HC := Lib.hid hcon
 clear hS hcon
 go_enter Tryd.func29, Tryd.ntmps29
 go_upto_region 1 with (fail)
 refine at_objsC (S0.out.alloc1 (c1 := #[.int .i64 row, .int .i64 col, .bool pend]) (t1 := 48)) (fun W hW => ?_)
 generalize w.heap.size = b9 at hW ⊢
 have S1 := Lib.hid hW
 clear hW S0
 obtain ⟨hx9, hf9, hz9⟩ := (S1.out.box (k := 0) rfl).facts
 go_wp2_with fail
 clear hx9 hf9 hz9
 refine (HC.out [_] _ rfl S1.out).mono ?_
 rintro e w1 ⟨rfl, hS⟩
 have S2 := Lib.hid (show Objs w0 w1 (.box b9 48 #[.int .i64 row, .int .i64 col, .bool pend] :: os2) from hS)
 clear hS S1
 go_wp2_with fail
 go_ret
 exact ⟨rfl, S2.out.tail⟩
set_option maxHeartbeats 4000000 in
theorem l16at_any (col : Int) (pend : Bool) (hS : Objs w0 w os) : Calls Tryd.prog 64 #[.int .i64 col, .bool pend] w fun e w' => e = .returned (.agg #[.int .i64 0, .int .i64 col, .bool pend]) ∧ Objs w0 w' os := by
 have S0 := Lib.hid hS
 clear hS
 go_enter Tryd.func64, Tryd.ntmps64
 go_wp2_with fail
 have SF := Lib.hid (S0.out.alloc1 (c1 := #[.int .i64 0, .int .i64 col, .bool pend]) (t1 := 48))
 refine bodyPost_ret (results_cell1 Tryd.results64 _ _ w.heap.size 48 _ _ rfl (SF.out.box (k := 0) rfl) Tryd.underlying48 rfl pcursor_size) rfl ?_
 exact ⟨rfl, SF.out.tail⟩
end
end Go.Proofs.YtppijfjigcoifaaDoor

namespace Go.Proofs.YtppijfjigcoifaaDoor
open Go.RowKit

theorem gk {bs os : List Ob} {a k : Nat} {o : Ob} (hb : bs.length = a) (hk : os[k]? = some o) : (bs ++ os)[a + k]? = some o := by
 rw [List.getElem?_append_right (by omega), show a + k - bs.length = k by omega]; exact hk
theorem gset {bs os : List Ob} {a k : Nat} {o : Ob} (hb : bs.length = a) : (bs ++ os).set (a + k) o = bs ++ os.set k o := by
 rw [List.set_append_right _ _ (by omega), show a + k - bs.length = k by omega]
section
variable {w0 w : World} {os : List Ob} {k p cols : Nat} {L : List Ln} {row col : Int} {pend auto ins : Bool} {r : Int} {q : Pen}
theorem prints_wrap (hT : Tabs w0) (hS : Objs w0 w os) (hk : os[k]? = some (.grid p 58 cols L)) (hc : 0 < cols) (hcm : cols ≤ 1000) (hL : 0 < L.length) (hin : inG row col pend L.length cols = true) (hw : 1 ≤ wOf r) (hq : q.ok = true) (hwr : wrapB cols col pend auto (wOf r) = true) :
  Calls Tryd.prog 27 #[.pointer (some ⟨p, 0, none⟩), .agg #[.int .i64 row, .int .i64 col, .bool pend], .int .i32 r, .agg (pv q), .bool auto, .bool ins, .agg #[.int .i64 0, .int .i64 0, .bool false], .int .i64 8] w fun e w' => e = .returned (.bool true) ∧ Objs w0 w' os :=
 l16prints_true hS fun bs W hb hW => (Print_wrap row col pend auto ins r q hT hW (k := 3 + k) (gk hb hk) hc hcm hL hin hw hq hwr).mono fun e w' ⟨h1, h2⟩ => ⟨h1, h2⟩
theorem prints_yes {i j : Nat} (hT : Tabs w0) (hS : Objs w0 w os) (hk : os[k]? = some (.grid p 58 cols L)) (hc : 0 < cols) (hcm : cols ≤ 1000) (hL : 0 < L.length) (hR : Rect cols L) (hin : inG i j pend L.length cols = true) (hw : 1 ≤ wOf r) (hq : q.ok = true) (hwr : wrapB cols j pend auto (wOf r) = false) (x0 : Cell) (hx0 : x0 = ⟨r, 0, 0, 0, wOf r, q⟩) :
  Calls Tryd.prog 27 #[.pointer (some ⟨p, 0, none⟩), .agg #[.int .i64 ↑i, .int .i64 ↑j, .bool pend], .int .i32 r, .agg (pv q), .bool auto, .bool ins, .agg #[.int .i64 ↑i, .int .i64 ↑(prCol cols (prAt cols j (prCell cols x0)) (prCell cols x0)), .bool (prPend cols (prAt cols j (prCell cols x0)) (prCell cols x0) auto)], .int .i64 0] w fun e w' => e = .returned (.bool true) ∧ Objs w0 w' (os.set k (.grid p 58 cols (printL i j cols x0 ins L))) :=
 l16prints_true hS fun bs W hb hW => (Print_yes pend auto ins r q hT hW (k := 3 + k) (gk hb hk) hc hcm hL hR hin hw hq hwr x0 hx0).mono fun e w' ⟨h1, h2⟩ => ⟨h1, by rw [gset hb] at h2; exact h2⟩
theorem wraps_yes (hT : Tabs w0) (hS : Objs w0 w os) (hk : os[k]? = some (.grid p 58 cols L)) (hc : 0 < cols) (hcm : cols ≤ 1000) (hL : 0 < L.length) (hin : inG row col pend L.length cols = true) (hw : 1 ≤ wOf r) :
  Calls Tryd.prog 28 #[.pointer (some ⟨p, 0, none⟩), .agg #[.int .i64 row, .int .i64 col, .bool pend], .int .i32 r, .bool auto, .bool (wrapB cols col pend auto (wOf r)), .int .i64 0] w fun e w' => e = .returned (.bool true) ∧ Objs w0 w' os :=
 l16wraps_true hS fun bs W hb hW => (prWraps_yes row col pend auto r hT hW (k := 1 + k) (gk hb hk) hc hcm hL hin).mono fun e w' ⟨h1, h2⟩ => ⟨by rw [h1, if_neg (by omega)], h2⟩
theorem marks_bad (hT : Tabs w0) (hS : Objs w0 w os) (hk : os[k]? = some (.grid p 58 cols L)) (hc : 0 < cols) (hcm : cols ≤ 1000) (hL : 0 < L.length) (hin : inG row col pend L.length cols = true) (hw : ¬ wOf r = 0) :
  Calls Tryd.prog 29 #[.pointer (some ⟨p, 0, none⟩), .agg #[.int .i64 row, .int .i64 col, .bool pend], .int .i32 r, .bool false, .int .i64 2] w fun e w' => e = .returned (.bool true) ∧ Objs w0 w' os :=
 l16marks_true hS fun bs W hb hW => Mark_bad row col pend r hT hW (k := 1 + k) (gk hb hk) hc hcm hL hin hw
theorem marks_front (hT : Tabs w0) (hS : Objs w0 w os) (hk : os[k]? = some (.grid p 58 cols L)) (hc : 0 < cols) (hcm : cols ≤ 1000) (hL : 0 < L.length) (hin : inG row 0 false L.length cols = true) (hw : wOf r = 0) :
  Calls Tryd.prog 29 #[.pointer (some ⟨p, 0, none⟩), .agg #[.int .i64 row, .int .i64 0, .bool false], .int .i32 r, .bool false, .int .i64 0] w fun e w' => e = .returned (.bool true) ∧ Objs w0 w' os :=
 l16marks_true hS fun bs W hb hW => Mark_front row r hT hW (k := 1 + k) (gk hb hk) hc hcm hL hin hw
theorem marks_at {i c0 : Nat} {l : Ln} (hT : Tabs w0) (hS : Objs w0 w os) (hk : os[k]? = some (.grid p 58 cols L)) (hc : 0 < cols) (hcm : cols ≤ 1000) (hL : 0 < L.length) (hR : Rect cols L) (hin : inG i col pend L.length cols = true) (hw : wOf r = 0) (hcol : (pend = true ∧ col = (c0 : Int)) ∨ (pend = false ∧ col = (c0 : Int) + 1)) (hl : L[i]? = some l) (hV : RowV l.1) :
  Calls Tryd.prog 29 #[.pointer (some ⟨p, 0, none⟩), .agg #[.int .i64 ↑i, .int .i64 col, .bool pend], .int .i32 r, .bool (mkB l.1 c0 r), .int .i64 0] w fun e w' => e = .returned (.bool true) ∧ Objs w0 w' (os.set k (.grid p 58 cols (rowMod i (mkRow c0 r) L))) :=
 l16marks_true hS fun bs W hb hW => (Mark_at col pend r hT hW (k := 1 + k) (gk hb hk) hc hcm hL hR hin hw hcol hl hV).mono fun e w' ⟨h1, h2⟩ => ⟨h1, by rw [gset hb] at h2; exact h2⟩
end
end Go.Proofs.YtppijfjigcoifaaDoor

namespace Go.Proofs.YtppijfjigcoifaaDoor
open Go.RowKit

structure Act16 where
 what : Int
 n : Int
 r : Int
 q : Pen
 auto : Bool
 ins : Bool
def av16 (a : Act16) : Array Value := #[.int .i64 a.what, .int .i64 a.n, .int .i32 a.r, .int .i64 a.q.fk, .int .u8 a.q.fi, .int .u8 a.q.fr, .int .u8 a.q.fg, .int .u8 a.q.fb, .int .i64 a.q.bk, .int .u8 a.q.bi, .int .u8 a.q.br, .int .u8 a.q.bg, .int .u8 a.q.bb, .int .u8 a.q.fl, .bool a.auto, .bool a.ins]
@[go_sem] theorem av16_size (a : Act16) : (av16 a).size = 16 := by simp [av16]
@[simp high, go_sem high] theorem av16_get0 (a : Act16) : (av16 a)[0]? = some (.int .i64 a.what) := by simp [av16]
@[simp high, go_sem high] theorem av16_get1 (a : Act16) : (av16 a)[1]? = some (.int .i64 a.n) := by simp [av16]
@[simp high, go_sem high] theorem av16_get2 (a : Act16) : (av16 a)[2]? = some (.int .i32 a.r) := by simp [av16]
@[simp high, go_sem high] theorem av16_get14 (a : Act16) : (av16 a)[14]? = some (.bool a.auto) := by simp [av16]
@[simp high, go_sem high] theorem av16_get15 (a : Act16) : (av16 a)[15]? = some (.bool a.ins) := by simp [av16]
theorem av16_pen {w : World} {b o : Nat} {a : Act16} (h : w.rangeAt b o (av16 a).toList) : penAt w b (o + 3) = some a.q := penAt_of fun j v hv => by
 have hj : j < 11 := by have := (List.getElem?_eq_some_iff.1 hv).1; simpa [pv] using this
 have := h (3 + j) v (by rw [← hv, ← List.getElem?_drop]; rw [show ((av16 a).toList.drop 3)[j]? = (((av16 a).toList.drop 3).take 11)[j]? from by rw [List.getElem?_take, if_pos hj]]; rfl)
 rw [show o + 3 + j = o + (3 + j) by omega]; exact this
theorem Blk.act16 {w : World} {g : Nat} {t : TypeId} {a : Act16} (h : Blk w g t (av16 a)) : (∀ i, w.cell? ⟨g, i, none⟩ = (av16 a)[i]?) ∧ (∀ i, w.frozen? ⟨g, i, none⟩ = false) ∧ g < w.heap.size ∧ Proofs.YtppijfjigcoifaaDoor.recAt w g 0 16 = some (av16 a) ∧ Proofs.YtppijfjigcoifaaDoor.penAt w g 3 = some a.q :=
 ⟨h.cell, h.frozen, h.lt, h.recAt 16 (av16_size a), by have := av16_pen h.range; simpa using this⟩
end Go.Proofs.YtppijfjigcoifaaDoor

namespace Go.Proofs.YtppijfjigcoifaaDoor
open Go.RowKit

section
variable {w0 w : World} {rest : List Ob} {p p2 cols : Nat} {L : List Ln} {n r : Int} {q : Pen} {auto ins pend : Bool} {i j : Nat}
end
end Go.Proofs.YtppijfjigcoifaaDoor

namespace Go.Proofs.YtppijfjigcoifaaDoor
open Go.RowKit

section
variable {w0 w : World} {rest : List Ob} {p p2 cols : Nat} {L : List Ln} {n r : Int} {q : Pen} {auto ins pend : Bool} {i j : Nat}
end
end Go.Proofs.YtppijfjigcoifaaDoor

namespace Go.Proofs.YtppijfjigcoifaaDoor
open Go.RowKit

theorem rune_of {w : World} {b o : Nat} {c : Cell} (h : cellAt w b o = some c) : w.cell? ⟨b, o, none⟩ = some (.int .i32 c.rune) := by
 have := range_of_cellAt h 0 _ (show (cv c).toList[0]? = some (.int .i32 c.rune) from by simp [cv])
 simpa using this
section
variable {w0 w : World} {rest : List Ob} {p p2 cols : Nat} {L : List Ln} {n r : Int} {q : Pen} {auto ins pend : Bool} {i j : Nat}
end
end Go.Proofs.YtppijfjigcoifaaDoor

namespace Go.Proofs.YtppijfjigcoifaaDoor
open Go.RowKit

section
variable {w0 : World} {p p2 cols : Nat} {L : List Ln} {pend : Bool} {i j : Nat}
end
end Go.Proofs.YtppijfjigcoifaaDoor

namespace Go.Proofs.YtppijfjigcoifaaDoor
open Go.RowKit

section
variable {w0 w : World} {os : List Ob} {k p cols : Nat} {L : List Ln}
end
end Go.Proofs.YtppijfjigcoifaaDoor

namespace Go.Proofs.YtppijfjigcoifaaDoor
open Go.RowKit

end Go.Proofs.YtppijfjigcoifaaDoor

namespace Go.Proofs.YtppijfjigcoifaaDoor
open Go.RowKit

theorem cv_ne (c : Cell) : ¬ cv c = #[] := by simp [cv]
def k16c (r : Int) : Cell := ⟨r, 0, 0, 0, wOf r, pen0⟩
def k16_c : Cell := ⟨99, 0, 0, 0, 1, pen0⟩
def k16_0 : List Ln := List.replicate 1 (List.replicate 4 (blank pen0), false)
def k16_1 : List Ln := printL 0 0 4 (k16c 97) false k16_0
def k16_2 : List Ln := printL 0 1 4 (k16c 20013) false k16_1
def k16_3 : List Ln := printL 0 3 4 (k16c 98) false k16_2
def k16_4 : List Ln := printL 0 3 4 (k16c 99) false k16_3
def k16_5 : List Ln := rowMod 0 (mkRow 2 769) k16_4
def k16_6 : List Ln := printL 0 0 4 (k16c 122) true k16_5
theorem k16_len0 : k16_0.length = 1 := by decide +kernel
theorem k16_rect0 : Rect 4 k16_0 := by intro l hl; revert l; decide +kernel
theorem k16_len1 : k16_1.length = 1 := by decide +kernel
theorem k16_rect1 : Rect 4 k16_1 := by intro l hl; revert l; decide +kernel
theorem k16_len2 : k16_2.length = 1 := by decide +kernel
theorem k16_rect2 : Rect 4 k16_2 := by intro l hl; revert l; decide +kernel
theorem k16_len3 : k16_3.length = 1 := by decide +kernel
theorem k16_rect3 : Rect 4 k16_3 := by intro l hl; revert l; decide +kernel
theorem k16_len4 : k16_4.length = 1 := by decide +kernel
theorem k16_rect4 : Rect 4 k16_4 := by intro l hl; revert l; decide +kernel
theorem k16_len5 : k16_5.length = 1 := by decide +kernel
theorem k16_rect5 : Rect 4 k16_5 := by intro l hl; revert l; decide +kernel
theorem k16_V4 : rowOk (k16_4[0]'(by rw [k16_len4]; decide)).1 = true := by decide +kernel
theorem k16_row : k16_6[0]? = some ([k16c 122, k16c 97, ⟨20013, 769, 0, 0, 2, pen0⟩, cell0], false) := by decide +kernel
theorem k16_at3 : ((k16_5[0]'(by rw [k16_len5]; decide)).1)[3]? = some k16_c := by decide +kernel
section
variable {w0 w : World} {os : List Ob} {k p : Nat} {L L2 : List Ln} {j nc c0 : Nat} {c1 c2 r : Int} {pend np auto ins : Bool}
theorem k16_print (hT : Tabs w0) (hS : Objs w0 w os) (hk : os[k]? = some (.grid p 58 ((4 : Nat) : Int) L)) (hlen : L.length = 1) (hR : Rect 4 L) (hin : inG ((0 : Nat) : Int) (j : Int) pend 1 4 = true) (hw : 1 ≤ wOf r) (hwr : wrapB 4 j pend auto (wOf r) = false)
  (h1 : prCol 4 (prAt 4 j (prCell 4 (k16c r))) (prCell 4 (k16c r)) = nc) (h2 : prPend 4 (prAt 4 j (prCell 4 (k16c r))) (prCell 4 (k16c r)) auto = np) (h3 : printL 0 j 4 (k16c r) ins L = L2) (hc1 : (j : Int) = c1) (hc2 : (nc : Int) = c2) :
  Calls Tryd.prog 27 #[.pointer (some ⟨p, 0, none⟩), .agg #[.int .i64 0, .int .i64 c1, .bool pend], .int .i32 r, .agg (pv pen0), .bool auto, .bool ins, .agg #[.int .i64 0, .int .i64 c2, .bool np], .int .i64 0] w fun e w' => e = .returned (.bool true) ∧ Objs w0 w' (os.set k (.grid p 58 ((4 : Nat) : Int) L2)) := by
 subst hc1; subst hc2
 have h := prints_yes (i := 0) (j := j) (pend := pend) (auto := auto) (ins := ins) (q := pen0) (r := r) hT hS hk (by decide) (by decide) (by omega) hR (by rw [hlen]; exact hin) hw (by decide +kernel) hwr (k16c r) rfl
 rw [h1, h2, h3] at h
 exact h
theorem k16_wrap (hT : Tabs w0) (hS : Objs w0 w os) (hk : os[k]? = some (.grid p 58 ((4 : Nat) : Int) L)) (hlen : L.length = 1) (hin : inG 0 (j : Int) pend 1 4 = true) (hw : 1 ≤ wOf r) (hwr : wrapB 4 j pend auto (wOf r) = true) (hc1 : (j : Int) = c1) :
  Calls Tryd.prog 27 #[.pointer (some ⟨p, 0, none⟩), .agg #[.int .i64 0, .int .i64 c1, .bool pend], .int .i32 r, .agg (pv pen0), .bool auto, .bool ins, .agg #[.int .i64 0, .int .i64 0, .bool false], .int .i64 8] w fun e w' => e = .returned (.bool true) ∧ Objs w0 w' os := by
 subst hc1
 exact prints_wrap hT hS hk (by decide) (by decide) (by omega) (by rw [hlen]; exact hin) hw (by decide +kernel) hwr
theorem k16_wraps {b : Bool} (hT : Tabs w0) (hS : Objs w0 w os) (hk : os[k]? = some (.grid p 58 ((4 : Nat) : Int) L)) (hlen : L.length = 1) (hin : inG 0 (j : Int) pend 1 4 = true) (hw : 1 ≤ wOf r) (hwr : wrapB 4 j pend auto (wOf r) = b) (hc1 : (j : Int) = c1) :
  Calls Tryd.prog 28 #[.pointer (some ⟨p, 0, none⟩), .agg #[.int .i64 0, .int .i64 c1, .bool pend], .int .i32 r, .bool auto, .bool b, .int .i64 0] w fun e w' => e = .returned (.bool true) ∧ Objs w0 w' os := by
 subst hc1; subst hwr
 exact wraps_yes hT hS hk (by decide) (by decide) (by omega) (by rw [hlen]; exact hin) hw
theorem k16_mark {b : Bool} (hT : Tabs w0) (hS : Objs w0 w os) (hk : os[k]? = some (.grid p 58 ((4 : Nat) : Int) L)) (hlen : L.length = 1) (hR : Rect 4 L) (hV : rowOk (L[0]'(by omega)).1 = true) (hin : inG ((0 : Nat) : Int) c1 false 1 4 = true) (hw : wOf r = 0) (hcol : decide (c1 = (c0 : Int) + 1) = true) (hm : L[0]? = some (L[0]'(by omega))) (hb : mkB (L[0]'(by omega)).1 c0 r = b) (h3 : rowMod 0 (mkRow c0 r) L = L2) (hc : c1 = c1) :
  Calls Tryd.prog 29 #[.pointer (some ⟨p, 0, none⟩), .agg #[.int .i64 0, .int .i64 c1, .bool false], .int .i32 r, .bool b, .int .i64 0] w fun e w' => e = .returned (.bool true) ∧ Objs w0 w' (os.set k (.grid p 58 ((4 : Nat) : Int) L2)) := by
 have h := marks_at (i := 0) (c0 := c0) (col := c1) (pend := false) (r := r) hT hS hk (by decide) (by decide) (by omega) hR (by rw [hlen]; exact hin) hw (.inr ⟨rfl, of_decide_eq_true hcol⟩) hm (rowOk_is.1 hV)
 rw [hb, h3] at h
 exact h
end
set_option maxRecDepth 100000 in
set_option maxHeartbeats 16000000 in
theorem l16known_any (w : World) (hT : Tabs w) : Calls Tryd.prog 30 #[] w fun e w' => e = .returned (.bool true) ∧ Below w.heap.size w w' := by
 have HT := Lib.hid hT
 clear hT
 go_enter Tryd.func30, Tryd.ntmps30
 go_wp2_with fail
 refine (gridNew_yes 1 4 (by decide) (by decide) (by decide) (by decide) w _ [] (objs_start w)).mono ?_
 rintro e w1 ⟨p, rfl, hS⟩
 have T0 := Lib.hid (show Objs w w1 [.grid p 58 ((4 : Nat) : Int) k16_0] from hS)
 clear hS
 go_upto_region 3 with (fail)
 refine at_objsC (T0.out.alloc1 (c1 := pv pen0) (t1 := 54)) (fun W hW => ?_)
 generalize w1.heap.size = b3 at hW ⊢
 have T1 := Lib.hid hW
 clear hW T0
 refine wp_region_stage (w0 := w) (os := []) (by kernel_rfl) (by kernel_rfl) (by kernel_rfl) [(1, 11, [], fun vs => .grid p 58 ((4 : Nat) : Int) k16_1), (1, 19, [], fun vs => .grid p 58 ((4 : Nat) : Int) k16_2), (1, 27, [], fun vs => .grid p 58 ((4 : Nat) : Int) k16_3)] [[], [], [], [], [], [], [], [], [], [0], [], [1], [], [], [], [], [], [0], [], [1], [], [], [], [], [], [0], [], [1], [], [], [], [], [], [1], [], [], [], [], [], [1], [], [], [], [], [], [1], [], []] [.box b3 54 (pv pen0), .grid p 58 ((4 : Nat) : Int) k16_0] (fun opn u => match opn with | 0 => u = pt p 0 | 1 => u = .bool false | 2 => u = .bool false | 3 => u = .int .i64 0 | 4 => u = .bool false | 5 => u = .bool false | 6 => u = .bool false | 7 => u = pt p 0 | 8 => u = .agg #[.int .i64 0, .int .i64 0, .bool false] | 9 => u = .agg (pv pen0) | 10 => u = .agg #[.int .i64 0, .int .i64 1, .bool false] | 11 => u = .bool true | 12 => u = .bool false | 13 => u = .bool false | 14 => u = .bool false | 15 => u = pt p 0 | 16 => u = .agg #[.int .i64 0, .int .i64 1, .bool false] | 17 => u = .agg (pv pen0) | 18 => u = .agg #[.int .i64 0, .int .i64 3, .bool false] | 19 => u = .bool true | 20 => u = .bool false | 21 => u = .bool false | 22 => u = .bool false | 23 => u = pt p 0 | 24 => u = .agg #[.int .i64 0, .int .i64 3, .bool false] | 25 => u = .agg (pv pen0) | 26 => u = .agg #[.int .i64 0, .int .i64 3, .bool true] | 27 => u = .bool true | 28 => u = .bool false | 29 => u = .bool false | 30 => u = .bool false | 31 => u = pt p 0 | 32 => u = .agg #[.int .i64 0, .int .i64 3, .bool true] | 33 => u = .bool true | 34 => u = .bool false | 35 => u = .bool false | 36 => u = .bool false | 37 => u = pt p 0 | 38 => u = .agg #[.int .i64 0, .int .i64 3, .bool false] | 39 => u = .bool true | 40 => u = .bool false | 41 => u = .bool false | 42 => u = .bool false | 43 => u = pt p 0 | 44 => u = .agg #[.int .i64 0, .int .i64 3, .bool false] | 45 => u = .bool true | 46 => u = .bool false | 47 => u = .bool false | _ => True) (fun vs => [.box b3 54 (pv pen0), .grid p 58 ((4 : Nat) : Int) k16_3]) (by kernel_rfl) (fun vs => by rfl) T1.out ?_ ?_
 ·apply sc
  ·intro a w' vs σ hS hl hs hk
   have f1 : a.tmps[1]?.getD undef = .pointer (some ⟨p, 0, none⟩) := sof hk
   exact rp (pt p 0) (by simp [execOp, Act.eval, f1, go_sem]) hl hs hS
  apply sc
  ·intro a w' vs σ hS hl hs hk
   have f12 : a.tmps[12]?.getD undef = .pointer (some ⟨p, 0, none⟩) := sf hk 0
   exact rp (.bool false) (by simp [execOp, Act.eval, f12, go_sem]) hl hs hS
  apply sc
  ·intro a w' vs σ hS hl hs hk
   have f13 : a.tmps[13]?.getD undef = .bool false := sf hk 1
   exact rp (.bool false) (by simp [execOp, Act.eval, f13, go_sem]) hl hs hS
  apply sc
  ·intro a w' vs σ hS hl hs hk
   have f2 : a.tmps[2]?.getD undef = .int .i64 0 := sof hk
   exact rq (.int .i64 0) (wanted_yes rfl rfl rfl (sv hk 2)) (by simp [execOp, Act.eval, f2, go_sem]) hl hs hS
  apply sc
  ·intro a w' vs σ hS hl hs hk
   have f15 : a.tmps[15]?.getD undef = .int .i64 0 := sf hk 3
   exact rq (.bool false) (wanted_yes rfl rfl rfl (sv hk 2)) (by simp [execOp, Act.eval, f15, go_sem]) hl hs hS
  apply sc
  ·intro a w' vs σ hS hl hs hk
   have f14 : a.tmps[14]?.getD undef = .bool false := sf hk 2
   have f16 : a.tmps[16]?.getD undef = .bool false := sf hk 4
   exact rp (.bool false) (by simp [execOp, Act.eval, f14, f16, go_sem]) hl hs hS
  apply sc
  ·intro a w' vs σ hS hl hs hk
   have f17 : a.tmps[17]?.getD undef = .bool false := sf hk 5
   exact rp (.bool false) (by simp [execOp, Act.eval, f17, go_sem]) hl hs hS
  apply sc
  ·intro a w' vs σ hS hl hs hk
   have f1 : a.tmps[1]?.getD undef = .pointer (some ⟨p, 0, none⟩) := sof hk
   exact rq (pt p 0) (wanted_yes rfl rfl rfl (sv hk 6)) (by simp [execOp, Act.eval, f1, go_sem]) hl hs hS
  apply sc
  ·intro a w' vs σ hS hl hs hk
   exact ro_call (f := 64) (wanted_yes rfl rfl rfl (sv hk 6)) rfl (by simp only [List.map_toArray, List.map_cons, List.map_nil, Act.eval] <;> rfl) (fun _ _ => by kernel_rfl) ((l16at_any 0 false hS).mono fun e w2 ⟨h1, h2⟩ => ⟨_, h1, sp_same (by kernel_rfl) hl hs h2 rfl, trivial⟩)
  apply sc
  ·intro a w' vs σ hS hl hs hk
   have f3 : a.tmps[3]?.getD undef = .pointer (some ⟨b3, 0, none⟩) := sof hk
   have hx := (hS.box (sg (hs 0 (by decide)))).penAt
   exact rq (.agg (pv pen0)) (wanted_yes rfl rfl rfl (sv hk 6)) (by simp [execOp, Act.eval, f3, go_sem, hx]) hl hs hS
  apply sc
  ·intro a w' vs σ hS hl hs hk
   exact ro_call (f := 64) (wanted_yes rfl rfl rfl (sv hk 6)) rfl (by simp only [List.map_toArray, List.map_cons, List.map_nil, Act.eval] <;> rfl) (fun _ _ => by kernel_rfl) ((l16at_any 1 false hS).mono fun e w2 ⟨h1, h2⟩ => ⟨_, h1, sp_same (by kernel_rfl) hl hs h2 rfl, trivial⟩)
  apply sc
  ·intro a w' vs σ hS hl hs hk
   have e19 : a.tmps.getD 19 undef = .pointer (some ⟨p, 0, none⟩) := sv hk 7
   have e20 : a.tmps.getD 20 undef = .agg #[.int .i64 0, .int .i64 0, .bool false] := sv hk 8
   have e21 : a.tmps.getD 21 undef = .agg (pv pen0) := sv hk 9
   have e22 : a.tmps.getD 22 undef = .agg #[.int .i64 0, .int .i64 1, .bool false] := sv hk 10
   exact ro_call (f := 27) (wanted_yes rfl rfl rfl (sv hk 6)) rfl (by simp only [List.map_toArray, List.map_cons, List.map_nil, Act.eval, e19, e20, e21, e22] <;> rfl) (fun _ _ => by kernel_rfl) ((k16_print (j := 0) HT.out hS (k := 1) (sg (hs 1 (by decide))) k16_len0 k16_rect0 (by decide +kernel) (by decide +kernel) (by decide +kernel) (by decide +kernel) (by decide +kernel) rfl rfl rfl).mono fun e w2 ⟨h1, h2⟩ => ⟨_, h1, sp_set 1 (.grid p 58 ((4 : Nat) : Int) k16_1) (by kernel_rfl) (by simp) (by decide) hl hs (by rfl) h2 rfl, trivial⟩)
  apply sc
  ·intro a w' vs σ hS hl hs hk
   have f23 : a.tmps[23]?.getD undef = .bool true := sf hk 11
   exact rq (.bool false) (wanted_yes rfl rfl rfl (sv hk 6)) (by simp [execOp, Act.eval, f23, go_sem]) hl hs hS
  apply sc
  ·intro a w' vs σ hS hl hs hk
   have f18 : a.tmps[18]?.getD undef = .bool false := sf hk 6
   have f24 : a.tmps[24]?.getD undef = .bool false := sf hk 12
   exact rp (.bool false) (by simp [execOp, Act.eval, f18, f24, go_sem]) hl hs hS
  apply sc
  ·intro a w' vs σ hS hl hs hk
   have f25 : a.tmps[25]?.getD undef = .bool false := sf hk 13
   exact rp (.bool false) (by simp [execOp, Act.eval, f25, go_sem]) hl hs hS
  apply sc
  ·intro a w' vs σ hS hl hs hk
   have f1 : a.tmps[1]?.getD undef = .pointer (some ⟨p, 0, none⟩) := sof hk
   exact rq (pt p 0) (wanted_yes rfl rfl rfl (sv hk 14)) (by simp [execOp, Act.eval, f1, go_sem]) hl hs hS
  apply sc
  ·intro a w' vs σ hS hl hs hk
   exact ro_call (f := 64) (wanted_yes rfl rfl rfl (sv hk 14)) rfl (by simp only [List.map_toArray, List.map_cons, List.map_nil, Act.eval] <;> rfl) (fun _ _ => by kernel_rfl) ((l16at_any 1 false hS).mono fun e w2 ⟨h1, h2⟩ => ⟨_, h1, sp_same (by kernel_rfl) hl hs h2 rfl, trivial⟩)
  apply sc
  ·intro a w' vs σ hS hl hs hk
   have f3 : a.tmps[3]?.getD undef = .pointer (some ⟨b3, 0, none⟩) := sof hk
   have hx := (hS.box (sg (hs 0 (by decide)))).penAt
   exact rq (.agg (pv pen0)) (wanted_yes rfl rfl rfl (sv hk 14)) (by simp [execOp, Act.eval, f3, go_sem, hx]) hl hs hS
  apply sc
  ·intro a w' vs σ hS hl hs hk
   exact ro_call (f := 64) (wanted_yes rfl rfl rfl (sv hk 14)) rfl (by simp only [List.map_toArray, List.map_cons, List.map_nil, Act.eval] <;> rfl) (fun _ _ => by kernel_rfl) ((l16at_any 3 false hS).mono fun e w2 ⟨h1, h2⟩ => ⟨_, h1, sp_same (by kernel_rfl) hl hs h2 rfl, trivial⟩)
  apply sc
  ·intro a w' vs σ hS hl hs hk
   have e27 : a.tmps.getD 27 undef = .pointer (some ⟨p, 0, none⟩) := sv hk 15
   have e28 : a.tmps.getD 28 undef = .agg #[.int .i64 0, .int .i64 1, .bool false] := sv hk 16
   have e29 : a.tmps.getD 29 undef = .agg (pv pen0) := sv hk 17
   have e30 : a.tmps.getD 30 undef = .agg #[.int .i64 0, .int .i64 3, .bool false] := sv hk 18
   exact ro_call (f := 27) (wanted_yes rfl rfl rfl (sv hk 14)) rfl (by simp only [List.map_toArray, List.map_cons, List.map_nil, Act.eval, e27, e28, e29, e30] <;> rfl) (fun _ _ => by kernel_rfl) ((k16_print (j := 1) HT.out hS (k := 1) (sg (hs 1 (by decide))) k16_len1 k16_rect1 (by decide +kernel) (by decide +kernel) (by decide +kernel) (by decide +kernel) (by decide +kernel) rfl rfl rfl).mono fun e w2 ⟨h1, h2⟩ => ⟨_, h1, sp_set 1 (.grid p 58 ((4 : Nat) : Int) k16_2) (by kernel_rfl) (by simp) (by decide) hl hs (by rfl) h2 rfl, trivial⟩)
  apply sc
  ·intro a w' vs σ hS hl hs hk
   have f31 : a.tmps[31]?.getD undef = .bool true := sf hk 19
   exact rq (.bool false) (wanted_yes rfl rfl rfl (sv hk 14)) (by simp [execOp, Act.eval, f31, go_sem]) hl hs hS
  apply sc
  ·intro a w' vs σ hS hl hs hk
   have f26 : a.tmps[26]?.getD undef = .bool false := sf hk 14
   have f32 : a.tmps[32]?.getD undef = .bool false := sf hk 20
   exact rp (.bool false) (by simp [execOp, Act.eval, f26, f32, go_sem]) hl hs hS
  apply sc
  ·intro a w' vs σ hS hl hs hk
   have f33 : a.tmps[33]?.getD undef = .bool false := sf hk 21
   exact rp (.bool false) (by simp [execOp, Act.eval, f33, go_sem]) hl hs hS
  apply sc
  ·intro a w' vs σ hS hl hs hk
   have f1 : a.tmps[1]?.getD undef = .pointer (some ⟨p, 0, none⟩) := sof hk
   exact rq (pt p 0) (wanted_yes rfl rfl rfl (sv hk 22)) (by simp [execOp, Act.eval, f1, go_sem]) hl hs hS
  apply sc
  ·intro a w' vs σ hS hl hs hk
   exact ro_call (f := 64) (wanted_yes rfl rfl rfl (sv hk 22)) rfl (by simp only [List.map_toArray, List.map_cons, List.map_nil, Act.eval] <;> rfl) (fun _ _ => by kernel_rfl) ((l16at_any 3 false hS).mono fun e w2 ⟨h1, h2⟩ => ⟨_, h1, sp_same (by kernel_rfl) hl hs h2 rfl, trivial⟩)
  apply sc
  ·intro a w' vs σ hS hl hs hk
   have f3 : a.tmps[3]?.getD undef = .pointer (some ⟨b3, 0, none⟩) := sof hk
   have hx := (hS.box (sg (hs 0 (by decide)))).penAt
   exact rq (.agg (pv pen0)) (wanted_yes rfl rfl rfl (sv hk 22)) (by simp [execOp, Act.eval, f3, go_sem, hx]) hl hs hS
  apply sc
  ·intro a w' vs σ hS hl hs hk
   exact ro_call (f := 64) (wanted_yes rfl rfl rfl (sv hk 22)) rfl (by simp only [List.map_toArray, List.map_cons, List.map_nil, Act.eval] <;> rfl) (fun _ _ => by kernel_rfl) ((l16at_any 3 true hS).mono fun e w2 ⟨h1, h2⟩ => ⟨_, h1, sp_same (by kernel_rfl) hl hs h2 rfl, trivial⟩)
  apply sc
  ·intro a w' vs σ hS hl hs hk
   have e35 : a.tmps.getD 35 undef = .pointer (some ⟨p, 0, none⟩) := sv hk 23
   have e36 : a.tmps.getD 36 undef = .agg #[.int .i64 0, .int .i64 3, .bool false] := sv hk 24
   have e37 : a.tmps.getD 37 undef = .agg (pv pen0) := sv hk 25
   have e38 : a.tmps.getD 38 undef = .agg #[.int .i64 0, .int .i64 3, .bool true] := sv hk 26
   exact ro_call (f := 27) (wanted_yes rfl rfl rfl (sv hk 22)) rfl (by simp only [List.map_toArray, List.map_cons, List.map_nil, Act.eval, e35, e36, e37, e38] <;> rfl) (fun _ _ => by kernel_rfl) ((k16_print (j := 3) HT.out hS (k := 1) (sg (hs 1 (by decide))) k16_len2 k16_rect2 (by decide +kernel) (by decide +kernel) (by decide +kernel) (by decide +kernel) (by decide +kernel) rfl rfl rfl).mono fun e w2 ⟨h1, h2⟩ => ⟨_, h1, sp_set 1 (.grid p 58 ((4 : Nat) : Int) k16_3) (by kernel_rfl) (by simp) (by decide) hl hs (by rfl) h2 rfl, trivial⟩)
  apply sc
  ·intro a w' vs σ hS hl hs hk
   have f39 : a.tmps[39]?.getD undef = .bool true := sf hk 27
   exact rq (.bool false) (wanted_yes rfl rfl rfl (sv hk 22)) (by simp [execOp, Act.eval, f39, go_sem]) hl hs hS
  apply sc
  ·intro a w' vs σ hS hl hs hk
   have f34 : a.tmps[34]?.getD undef = .bool false := sf hk 22
   have f40 : a.tmps[40]?.getD undef = .bool false := sf hk 28
   exact rp (.bool false) (by simp [execOp, Act.eval, f34, f40, go_sem]) hl hs hS
  apply sc
  ·intro a w' vs σ hS hl hs hk
   have f41 : a.tmps[41]?.getD undef = .bool false := sf hk 29
   exact rp (.bool false) (by simp [execOp, Act.eval, f41, go_sem]) hl hs hS
  apply sc
  ·intro a w' vs σ hS hl hs hk
   have f1 : a.tmps[1]?.getD undef = .pointer (some ⟨p, 0, none⟩) := sof hk
   exact rq (pt p 0) (wanted_yes rfl rfl rfl (sv hk 30)) (by simp [execOp, Act.eval, f1, go_sem]) hl hs hS
  apply sc
  ·intro a w' vs σ hS hl hs hk
   exact ro_call (f := 64) (wanted_yes rfl rfl rfl (sv hk 30)) rfl (by simp only [List.map_toArray, List.map_cons, List.map_nil, Act.eval] <;> rfl) (fun _ _ => by kernel_rfl) ((l16at_any 3 true hS).mono fun e w2 ⟨h1, h2⟩ => ⟨_, h1, sp_same (by kernel_rfl) hl hs h2 rfl, trivial⟩)
  apply sc
  ·intro a w' vs σ hS hl hs hk
   have e43 : a.tmps.getD 43 undef = .pointer (some ⟨p, 0, none⟩) := sv hk 31
   have e44 : a.tmps.getD 44 undef = .agg #[.int .i64 0, .int .i64 3, .bool true] := sv hk 32
   exact ro_call (f := 28) (wanted_yes rfl rfl rfl (sv hk 30)) rfl (by simp only [List.map_toArray, List.map_cons, List.map_nil, Act.eval, e43, e44] <;> rfl) (fun _ _ => by kernel_rfl) ((k16_wraps (j := 3) HT.out hS (k := 1) (sg (hs 1 (by decide))) k16_len3 (by decide +kernel) (by decide +kernel) (by decide +kernel) rfl).mono fun e w2 ⟨h1, h2⟩ => ⟨_, h1, sp_same (by kernel_rfl) hl hs h2 rfl, trivial⟩)
  apply sc
  ·intro a w' vs σ hS hl hs hk
   have f45 : a.tmps[45]?.getD undef = .bool true := sf hk 33
   exact rq (.bool false) (wanted_yes rfl rfl rfl (sv hk 30)) (by simp [execOp, Act.eval, f45, go_sem]) hl hs hS
  apply sc
  ·intro a w' vs σ hS hl hs hk
   have f42 : a.tmps[42]?.getD undef = .bool false := sf hk 30
   have f46 : a.tmps[46]?.getD undef = .bool false := sf hk 34
   exact rp (.bool false) (by simp [execOp, Act.eval, f42, f46, go_sem]) hl hs hS
  apply sc
  ·intro a w' vs σ hS hl hs hk
   have f47 : a.tmps[47]?.getD undef = .bool false := sf hk 35
   exact rp (.bool false) (by simp [execOp, Act.eval, f47, go_sem]) hl hs hS
  apply sc
  ·intro a w' vs σ hS hl hs hk
   have f1 : a.tmps[1]?.getD undef = .pointer (some ⟨p, 0, none⟩) := sof hk
   exact rq (pt p 0) (wanted_yes rfl rfl rfl (sv hk 36)) (by simp [execOp, Act.eval, f1, go_sem]) hl hs hS
  apply sc
  ·intro a w' vs σ hS hl hs hk
   exact ro_call (f := 64) (wanted_yes rfl rfl rfl (sv hk 36)) rfl (by simp only [List.map_toArray, List.map_cons, List.map_nil, Act.eval] <;> rfl) (fun _ _ => by kernel_rfl) ((l16at_any 3 false hS).mono fun e w2 ⟨h1, h2⟩ => ⟨_, h1, sp_same (by kernel_rfl) hl hs h2 rfl, trivial⟩)
  apply sc
  ·intro a w' vs σ hS hl hs hk
   have e49 : a.tmps.getD 49 undef = .pointer (some ⟨p, 0, none⟩) := sv hk 37
   have e50 : a.tmps.getD 50 undef = .agg #[.int .i64 0, .int .i64 3, .bool false] := sv hk 38
   exact ro_call (f := 28) (wanted_yes rfl rfl rfl (sv hk 36)) rfl (by simp only [List.map_toArray, List.map_cons, List.map_nil, Act.eval, e49, e50] <;> rfl) (fun _ _ => by kernel_rfl) ((k16_wraps (j := 3) HT.out hS (k := 1) (sg (hs 1 (by decide))) k16_len3 (by decide +kernel) (by decide +kernel) (by decide +kernel) rfl).mono fun e w2 ⟨h1, h2⟩ => ⟨_, h1, sp_same (by kernel_rfl) hl hs h2 rfl, trivial⟩)
  apply sc
  ·intro a w' vs σ hS hl hs hk
   have f51 : a.tmps[51]?.getD undef = .bool true := sf hk 39
   exact rq (.bool false) (wanted_yes rfl rfl rfl (sv hk 36)) (by simp [execOp, Act.eval, f51, go_sem]) hl hs hS
  apply sc
  ·intro a w' vs σ hS hl hs hk
   have f48 : a.tmps[48]?.getD undef = .bool false := sf hk 36
   have f52 : a.tmps[52]?.getD undef = .bool false := sf hk 40
   exact rp (.bool false) (by simp [execOp, Act.eval, f48, f52, go_sem]) hl hs hS
  apply sc
  ·intro a w' vs σ hS hl hs hk
   have f53 : a.tmps[53]?.getD undef = .bool false := sf hk 41
   exact rp (.bool false) (by simp [execOp, Act.eval, f53, go_sem]) hl hs hS
  apply sc
  ·intro a w' vs σ hS hl hs hk
   have f1 : a.tmps[1]?.getD undef = .pointer (some ⟨p, 0, none⟩) := sof hk
   exact rq (pt p 0) (wanted_yes rfl rfl rfl (sv hk 42)) (by simp [execOp, Act.eval, f1, go_sem]) hl hs hS
  apply sc
  ·intro a w' vs σ hS hl hs hk
   exact ro_call (f := 64) (wanted_yes rfl rfl rfl (sv hk 42)) rfl (by simp only [List.map_toArray, List.map_cons, List.map_nil, Act.eval] <;> rfl) (fun _ _ => by kernel_rfl) ((l16at_any 3 false hS).mono fun e w2 ⟨h1, h2⟩ => ⟨_, h1, sp_same (by kernel_rfl) hl hs h2 rfl, trivial⟩)
  apply sc
  ·intro a w' vs σ hS hl hs hk
   have e55 : a.tmps.getD 55 undef = .pointer (some ⟨p, 0, none⟩) := sv hk 43
   have e56 : a.tmps.getD 56 undef = .agg #[.int .i64 0, .int .i64 3, .bool false] := sv hk 44
   exact ro_call (f := 28) (wanted_yes rfl rfl rfl (sv hk 42)) rfl (by simp only [List.map_toArray, List.map_cons, List.map_nil, Act.eval, e55, e56] <;> rfl) (fun _ _ => by kernel_rfl) ((k16_wraps (j := 3) HT.out hS (k := 1) (sg (hs 1 (by decide))) k16_len3 (by decide +kernel) (by decide +kernel) (by decide +kernel) rfl).mono fun e w2 ⟨h1, h2⟩ => ⟨_, h1, sp_same (by kernel_rfl) hl hs h2 rfl, trivial⟩)
  apply sc
  ·intro a w' vs σ hS hl hs hk
   have f57 : a.tmps[57]?.getD undef = .bool true := sf hk 45
   exact rq (.bool false) (wanted_yes rfl rfl rfl (sv hk 42)) (by simp [execOp, Act.eval, f57, go_sem]) hl hs hS
  apply sc
  ·intro a w' vs σ hS hl hs hk
   have f54 : a.tmps[54]?.getD undef = .bool false := sf hk 42
   have f58 : a.tmps[58]?.getD undef = .bool false := sf hk 46
   exact rp (.bool false) (by simp [execOp, Act.eval, f54, f58, go_sem]) hl hs hS
  exact SSteps.nil
 ·intro vs w' hS hv
  have q0 : vs 0 = _ := hv 0 (by decide)
  have q1 : vs 1 = _ := hv 1 (by decide)
  have q2 : vs 2 = _ := hv 2 (by decide)
  have q3 : vs 3 = _ := hv 3 (by decide)
  have q4 : vs 4 = _ := hv 4 (by decide)
  have q5 : vs 5 = _ := hv 5 (by decide)
  have q6 : vs 6 = _ := hv 6 (by decide)
  have q7 : vs 7 = _ := hv 7 (by decide)
  have q8 : vs 8 = _ := hv 8 (by decide)
  have q9 : vs 9 = _ := hv 9 (by decide)
  have q10 : vs 10 = _ := hv 10 (by decide)
  have q11 : vs 11 = _ := hv 11 (by decide)
  have q12 : vs 12 = _ := hv 12 (by decide)
  have q13 : vs 13 = _ := hv 13 (by decide)
  have q14 : vs 14 = _ := hv 14 (by decide)
  have q15 : vs 15 = _ := hv 15 (by decide)
  have q16 : vs 16 = _ := hv 16 (by decide)
  have q17 : vs 17 = _ := hv 17 (by decide)
  have q18 : vs 18 = _ := hv 18 (by decide)
  have q19 : vs 19 = _ := hv 19 (by decide)
  have q20 : vs 20 = _ := hv 20 (by decide)
  have q21 : vs 21 = _ := hv 21 (by decide)
  have q22 : vs 22 = _ := hv 22 (by decide)
  have q23 : vs 23 = _ := hv 23 (by decide)
  have q24 : vs 24 = _ := hv 24 (by decide)
  have q25 : vs 25 = _ := hv 25 (by decide)
  have q26 : vs 26 = _ := hv 26 (by decide)
  have q27 : vs 27 = _ := hv 27 (by decide)
  have q28 : vs 28 = _ := hv 28 (by decide)
  have q29 : vs 29 = _ := hv 29 (by decide)
  have q30 : vs 30 = _ := hv 30 (by decide)
  have q31 : vs 31 = _ := hv 31 (by decide)
  have q32 : vs 32 = _ := hv 32 (by decide)
  have q33 : vs 33 = _ := hv 33 (by decide)
  have q34 : vs 34 = _ := hv 34 (by decide)
  have q35 : vs 35 = _ := hv 35 (by decide)
  have q36 : vs 36 = _ := hv 36 (by decide)
  have q37 : vs 37 = _ := hv 37 (by decide)
  have q38 : vs 38 = _ := hv 38 (by decide)
  have q39 : vs 39 = _ := hv 39 (by decide)
  have q40 : vs 40 = _ := hv 40 (by decide)
  have q41 : vs 41 = _ := hv 41 (by decide)
  have q42 : vs 42 = _ := hv 42 (by decide)
  have q43 : vs 43 = _ := hv 43 (by decide)
  have q44 : vs 44 = _ := hv 44 (by decide)
  have q45 : vs 45 = _ := hv 45 (by decide)
  have q46 : vs 46 = _ := hv 46 (by decide)
  have q47 : vs 47 = _ := hv 47 (by decide)
  have S2 := Lib.hid hS
  simp only [putL, Act.put, Nat.zero_add, Nat.reduceAdd, List.setIfInBounds_toArray, List.set_cons_succ, List.set_cons_zero, q0, q1, q2, q3, q4, q5, q6, q7, q8, q9, q10, q11, q12, q13, q14, q15, q16, q17, q18, q19, q20, q21, q22, q23, q24, q25, q26, q27, q28, q29, q30, q31, q32, q33, q34, q35, q36, q37, q38, q39, q40, q41, q42, q43, q44, q45, q46, q47]
  clear hS hv q0 q1 q2 q3 q4 q5 q6 q7 q8 q9 q10 q11 q12 q13 q14 q15 q16 q17 q18 q19 q20 q21 q22 q23 q24 q25 q26 q27 q28 q29 q30 q31 q32 q33 q34 q35 q36 q37 q38 q39 q40 q41 q42 q43 q44 q45 q46 q47
  have T2 := S2
  clear S2 T1
  go_upto_region 5 with (fail)
  refine wp_region_stage (w0 := w) (os := []) (by kernel_rfl) (by kernel_rfl) (by kernel_rfl) [(1, 11, [], fun vs => .grid p 58 ((4 : Nat) : Int) k16_4), (1, 17, [], fun vs => .grid p 58 ((4 : Nat) : Int) k16_5)] [[], [], [0], [], [1], [], [], [], [], [0], [], [1], [], [], [], [], [], [1], [], [], [], [], [], [1], [], [], [], [], [], [1], [], []] [.box b3 54 (pv pen0), .grid p 58 ((4 : Nat) : Int) k16_3] (fun opn u => match opn with | 0 => u = pt p 0 | 1 => u = .agg #[.int .i64 0, .int .i64 3, .bool true] | 2 => u = .agg (pv pen0) | 3 => u = .agg #[.int .i64 0, .int .i64 0, .bool false] | 4 => u = .bool true | 5 => u = .bool false | 6 => u = .bool false | 7 => u = pt p 0 | 8 => u = .agg #[.int .i64 0, .int .i64 3, .bool true] | 9 => u = .agg (pv pen0) | 10 => u = .agg #[.int .i64 0, .int .i64 3, .bool false] | 11 => u = .bool true | 12 => u = .bool false | 13 => u = .bool false | 14 => u = .bool false | 15 => u = pt p 0 | 16 => u = .agg #[.int .i64 0, .int .i64 3, .bool false] | 17 => u = .bool true | 18 => u = .bool false | 19 => u = .bool false | 20 => u = .bool false | 21 => u = pt p 0 | 22 => u = .agg #[.int .i64 0, .int .i64 0, .bool false] | 23 => u = .bool true | 24 => u = .bool false | 25 => u = .bool false | 26 => u = .bool false | 27 => u = pt p 0 | 28 => u = .agg #[.int .i64 0, .int .i64 3, .bool false] | 29 => u = .bool true | 30 => u = .bool false | 31 => u = .bool false | _ => True) (fun vs => [.box b3 54 (pv pen0), .grid p 58 ((4 : Nat) : Int) k16_5]) (by kernel_rfl) (fun vs => by rfl) T2.out ?_ ?_
  ·apply sc
   ·intro a w' vs σ hS hl hs hk
    have f1 : a.tmps[1]?.getD undef = .pointer (some ⟨p, 0, none⟩) := sof hk
    exact rp (pt p 0) (by simp [execOp, Act.eval, f1, go_sem]) hl hs hS
   apply sc
   ·intro a w' vs σ hS hl hs hk
    exact ro_call (f := 64) (wanted_none rfl) rfl (by simp only [List.map_toArray, List.map_cons, List.map_nil, Act.eval] <;> rfl) (fun _ _ => by kernel_rfl) ((l16at_any 3 true hS).mono fun e w2 ⟨h1, h2⟩ => ⟨_, h1, sp_same (by kernel_rfl) hl hs h2 rfl, trivial⟩)
   apply sc
   ·intro a w' vs σ hS hl hs hk
    have f3 : a.tmps[3]?.getD undef = .pointer (some ⟨b3, 0, none⟩) := sof hk
    have hx := (hS.box (sg (hs 0 (by decide)))).penAt
    exact rp (.agg (pv pen0)) (by simp [execOp, Act.eval, f3, go_sem, hx]) hl hs hS
   apply sc
   ·intro a w' vs σ hS hl hs hk
    exact rp (.agg #[.int .i64 0, .int .i64 0, .bool false]) (by simp [execOp, Act.eval, go_sem]) hl hs hS
   apply sc
   ·intro a w' vs σ hS hl hs hk
    have e60 : a.tmps.getD 60 undef = .pointer (some ⟨p, 0, none⟩) := sv hk 0
    have e61 : a.tmps.getD 61 undef = .agg #[.int .i64 0, .int .i64 3, .bool true] := sv hk 1
    have e62 : a.tmps.getD 62 undef = .agg (pv pen0) := sv hk 2
    have e63 : a.tmps.getD 63 undef = .agg #[.int .i64 0, .int .i64 0, .bool false] := sv hk 3
    exact ro_call (f := 27) (wanted_none rfl) rfl (by simp only [List.map_toArray, List.map_cons, List.map_nil, Act.eval, e60, e61, e62, e63] <;> rfl) (fun _ _ => by kernel_rfl) ((k16_wrap (j := 3) HT.out hS (k := 1) (sg (hs 1 (by decide))) k16_len3 (by decide +kernel) (by decide +kernel) (by decide +kernel) rfl).mono fun e w2 ⟨h1, h2⟩ => ⟨_, h1, sp_same (by kernel_rfl) hl hs h2 rfl, trivial⟩)
   apply sc
   ·intro a w' vs σ hS hl hs hk
    have f64 : a.tmps[64]?.getD undef = .bool true := sf hk 4
    exact rp (.bool false) (by simp [execOp, Act.eval, f64, go_sem]) hl hs hS
   apply sc
   ·intro a w' vs σ hS hl hs hk
    have f65 : a.tmps[65]?.getD undef = .bool false := sf hk 5
    exact rp (.bool false) (by simp [execOp, Act.eval, f65, go_sem]) hl hs hS
   apply sc
   ·intro a w' vs σ hS hl hs hk
    have f1 : a.tmps[1]?.getD undef = .pointer (some ⟨p, 0, none⟩) := sof hk
    exact rq (pt p 0) (wanted_yes rfl rfl rfl (sv hk 6)) (by simp [execOp, Act.eval, f1, go_sem]) hl hs hS
   apply sc
   ·intro a w' vs σ hS hl hs hk
    exact ro_call (f := 64) (wanted_yes rfl rfl rfl (sv hk 6)) rfl (by simp only [List.map_toArray, List.map_cons, List.map_nil, Act.eval] <;> rfl) (fun _ _ => by kernel_rfl) ((l16at_any 3 true hS).mono fun e w2 ⟨h1, h2⟩ => ⟨_, h1, sp_same (by kernel_rfl) hl hs h2 rfl, trivial⟩)
   apply sc
   ·intro a w' vs σ hS hl hs hk
    have f3 : a.tmps[3]?.getD undef = .pointer (some ⟨b3, 0, none⟩) := sof hk
    have hx := (hS.box (sg (hs 0 (by decide)))).penAt
    exact rq (.agg (pv pen0)) (wanted_yes rfl rfl rfl (sv hk 6)) (by simp [execOp, Act.eval, f3, go_sem, hx]) hl hs hS
   apply sc
   ·intro a w' vs σ hS hl hs hk
    exact ro_call (f := 64) (wanted_yes rfl rfl rfl (sv hk 6)) rfl (by simp only [List.map_toArray, List.map_cons, List.map_nil, Act.eval] <;> rfl) (fun _ _ => by kernel_rfl) ((l16at_any 3 false hS).mono fun e w2 ⟨h1, h2⟩ => ⟨_, h1, sp_same (by kernel_rfl) hl hs h2 rfl, trivial⟩)
   apply sc
   ·intro a w' vs σ hS hl hs hk
    have e67 : a.tmps.getD 67 undef = .pointer (some ⟨p, 0, none⟩) := sv hk 7
    have e68 : a.tmps.getD 68 undef = .agg #[.int .i64 0, .int .i64 3, .bool true] := sv hk 8
    have e69 : a.tmps.getD 69 undef = .agg (pv pen0) := sv hk 9
    have e70 : a.tmps.getD 70 undef = .agg #[.int .i64 0, .int .i64 3, .bool false] := sv hk 10
    exact ro_call (f := 27) (wanted_yes rfl rfl rfl (sv hk 6)) rfl (by simp only [List.map_toArray, List.map_cons, List.map_nil, Act.eval, e67, e68, e69, e70] <;> rfl) (fun _ _ => by kernel_rfl) ((k16_print (j := 3) HT.out hS (k := 1) (sg (hs 1 (by decide))) k16_len3 k16_rect3 (by decide +kernel) (by decide +kernel) (by decide +kernel) (by decide +kernel) (by decide +kernel) rfl rfl rfl).mono fun e w2 ⟨h1, h2⟩ => ⟨_, h1, sp_set 1 (.grid p 58 ((4 : Nat) : Int) k16_4) (by kernel_rfl) (by simp) (by decide) hl hs (by rfl) h2 rfl, trivial⟩)
   apply sc
   ·intro a w' vs σ hS hl hs hk
    have f71 : a.tmps[71]?.getD undef = .bool true := sf hk 11
    exact rq (.bool false) (wanted_yes rfl rfl rfl (sv hk 6)) (by simp [execOp, Act.eval, f71, go_sem]) hl hs hS
   apply sc
   ·intro a w' vs σ hS hl hs hk
    have f66 : a.tmps[66]?.getD undef = .bool false := sf hk 6
    have f72 : a.tmps[72]?.getD undef = .bool false := sf hk 12
    exact rp (.bool false) (by simp [execOp, Act.eval, f66, f72, go_sem]) hl hs hS
   apply sc
   ·intro a w' vs σ hS hl hs hk
    have f73 : a.tmps[73]?.getD undef = .bool false := sf hk 13
    exact rp (.bool false) (by simp [execOp, Act.eval, f73, go_sem]) hl hs hS
   apply sc
   ·intro a w' vs σ hS hl hs hk
    have f1 : a.tmps[1]?.getD undef = .pointer (some ⟨p, 0, none⟩) := sof hk
    exact rq (pt p 0) (wanted_yes rfl rfl rfl (sv hk 14)) (by simp [execOp, Act.eval, f1, go_sem]) hl hs hS
   apply sc
   ·intro a w' vs σ hS hl hs hk
    exact ro_call (f := 64) (wanted_yes rfl rfl rfl (sv hk 14)) rfl (by simp only [List.map_toArray, List.map_cons, List.map_nil, Act.eval] <;> rfl) (fun _ _ => by kernel_rfl) ((l16at_any 3 false hS).mono fun e w2 ⟨h1, h2⟩ => ⟨_, h1, sp_same (by kernel_rfl) hl hs h2 rfl, trivial⟩)
   apply sc
   ·intro a w' vs σ hS hl hs hk
    have e75 : a.tmps.getD 75 undef = .pointer (some ⟨p, 0, none⟩) := sv hk 15
    have e76 : a.tmps.getD 76 undef = .agg #[.int .i64 0, .int .i64 3, .bool false] := sv hk 16
    exact ro_call (f := 29) (wanted_yes rfl rfl rfl (sv hk 14)) rfl (by simp only [List.map_toArray, List.map_cons, List.map_nil, Act.eval, e75, e76] <;> rfl) (fun _ _ => by kernel_rfl) ((k16_mark (c0 := 2) HT.out hS (k := 1) (sg (hs 1 (by decide))) k16_len4 k16_rect4 k16_V4 (by decide +kernel) (by decide +kernel) (by decide +kernel) rfl (by decide +kernel) rfl rfl).mono fun e w2 ⟨h1, h2⟩ => ⟨_, h1, sp_set 1 (.grid p 58 ((4 : Nat) : Int) k16_5) (by kernel_rfl) (by simp) (by decide) hl hs (by rfl) h2 rfl, trivial⟩)
   apply sc
   ·intro a w' vs σ hS hl hs hk
    have f77 : a.tmps[77]?.getD undef = .bool true := sf hk 17
    exact rq (.bool false) (wanted_yes rfl rfl rfl (sv hk 14)) (by simp [execOp, Act.eval, f77, go_sem]) hl hs hS
   apply sc
   ·intro a w' vs σ hS hl hs hk
    have f74 : a.tmps[74]?.getD undef = .bool false := sf hk 14
    have f78 : a.tmps[78]?.getD undef = .bool false := sf hk 18
    exact rp (.bool false) (by simp [execOp, Act.eval, f74, f78, go_sem]) hl hs hS
   apply sc
   ·intro a w' vs σ hS hl hs hk
    have f79 : a.tmps[79]?.getD undef = .bool false := sf hk 19
    exact rp (.bool false) (by simp [execOp, Act.eval, f79, go_sem]) hl hs hS
   apply sc
   ·intro a w' vs σ hS hl hs hk
    have f1 : a.tmps[1]?.getD undef = .pointer (some ⟨p, 0, none⟩) := sof hk
    exact rq (pt p 0) (wanted_yes rfl rfl rfl (sv hk 20)) (by simp [execOp, Act.eval, f1, go_sem]) hl hs hS
   apply sc
   ·intro a w' vs σ hS hl hs hk
    exact ro_call (f := 64) (wanted_yes rfl rfl rfl (sv hk 20)) rfl (by simp only [List.map_toArray, List.map_cons, List.map_nil, Act.eval] <;> rfl) (fun _ _ => by kernel_rfl) ((l16at_any 0 false hS).mono fun e w2 ⟨h1, h2⟩ => ⟨_, h1, sp_same (by kernel_rfl) hl hs h2 rfl, trivial⟩)
   apply sc
   ·intro a w' vs σ hS hl hs hk
    have e81 : a.tmps.getD 81 undef = .pointer (some ⟨p, 0, none⟩) := sv hk 21
    have e82 : a.tmps.getD 82 undef = .agg #[.int .i64 0, .int .i64 0, .bool false] := sv hk 22
    exact ro_call (f := 29) (wanted_yes rfl rfl rfl (sv hk 20)) rfl (by simp only [List.map_toArray, List.map_cons, List.map_nil, Act.eval, e81, e82] <;> rfl) (fun _ _ => by kernel_rfl) ((marks_front (row := 0) HT.out hS (k := 1) (sg (hs 1 (by decide))) (by decide) (by decide) (by rw [k16_len5]; decide) (by rw [k16_len5]; decide +kernel) (by decide +kernel)).mono fun e w2 ⟨h1, h2⟩ => ⟨_, h1, sp_same (by kernel_rfl) hl hs h2 rfl, trivial⟩)
   apply sc
   ·intro a w' vs σ hS hl hs hk
    have f83 : a.tmps[83]?.getD undef = .bool true := sf hk 23
    exact rq (.bool false) (wanted_yes rfl rfl rfl (sv hk 20)) (by simp [execOp, Act.eval, f83, go_sem]) hl hs hS
   apply sc
   ·intro a w' vs σ hS hl hs hk
    have f80 : a.tmps[80]?.getD undef = .bool false := sf hk 20
    have f84 : a.tmps[84]?.getD undef = .bool false := sf hk 24
    exact rp (.bool false) (by simp [execOp, Act.eval, f80, f84, go_sem]) hl hs hS
   apply sc
   ·intro a w' vs σ hS hl hs hk
    have f85 : a.tmps[85]?.getD undef = .bool false := sf hk 25
    exact rp (.bool false) (by simp [execOp, Act.eval, f85, go_sem]) hl hs hS
   apply sc
   ·intro a w' vs σ hS hl hs hk
    have f1 : a.tmps[1]?.getD undef = .pointer (some ⟨p, 0, none⟩) := sof hk
    exact rq (pt p 0) (wanted_yes rfl rfl rfl (sv hk 26)) (by simp [execOp, Act.eval, f1, go_sem]) hl hs hS
   apply sc
   ·intro a w' vs σ hS hl hs hk
    exact ro_call (f := 64) (wanted_yes rfl rfl rfl (sv hk 26)) rfl (by simp only [List.map_toArray, List.map_cons, List.map_nil, Act.eval] <;> rfl) (fun _ _ => by kernel_rfl) ((l16at_any 3 false hS).mono fun e w2 ⟨h1, h2⟩ => ⟨_, h1, sp_same (by kernel_rfl) hl hs h2 rfl, trivial⟩)
   apply sc
   ·intro a w' vs σ hS hl hs hk
    have e87 : a.tmps.getD 87 undef = .pointer (some ⟨p, 0, none⟩) := sv hk 27
    have e88 : a.tmps.getD 88 undef = .agg #[.int .i64 0, .int .i64 3, .bool false] := sv hk 28
    exact ro_call (f := 29) (wanted_yes rfl rfl rfl (sv hk 26)) rfl (by simp only [List.map_toArray, List.map_cons, List.map_nil, Act.eval, e87, e88] <;> rfl) (fun _ _ => by kernel_rfl) ((marks_bad (row := 0) (col := 3) HT.out hS (k := 1) (sg (hs 1 (by decide))) (by decide) (by decide) (by rw [k16_len5]; decide) (by rw [k16_len5]; decide +kernel) (by decide +kernel)).mono fun e w2 ⟨h1, h2⟩ => ⟨_, h1, sp_same (by kernel_rfl) hl hs h2 rfl, trivial⟩)
   apply sc
   ·intro a w' vs σ hS hl hs hk
    have f89 : a.tmps[89]?.getD undef = .bool true := sf hk 29
    exact rq (.bool false) (wanted_yes rfl rfl rfl (sv hk 26)) (by simp [execOp, Act.eval, f89, go_sem]) hl hs hS
   apply sc
   ·intro a w' vs σ hS hl hs hk
    have f86 : a.tmps[86]?.getD undef = .bool false := sf hk 26
    have f90 : a.tmps[90]?.getD undef = .bool false := sf hk 30
    exact rp (.bool false) (by simp [execOp, Act.eval, f86, f90, go_sem]) hl hs hS
   exact SSteps.nil
  ·intro vs w' hS hv
   have q0 : vs 0 = _ := hv 0 (by decide)
   have q1 : vs 1 = _ := hv 1 (by decide)
   have q2 : vs 2 = _ := hv 2 (by decide)
   have q3 : vs 3 = _ := hv 3 (by decide)
   have q4 : vs 4 = _ := hv 4 (by decide)
   have q5 : vs 5 = _ := hv 5 (by decide)
   have q6 : vs 6 = _ := hv 6 (by decide)
   have q7 : vs 7 = _ := hv 7 (by decide)
   have q8 : vs 8 = _ := hv 8 (by decide)
   have q9 : vs 9 = _ := hv 9 (by decide)
   have q10 : vs 10 = _ := hv 10 (by decide)
   have q11 : vs 11 = _ := hv 11 (by decide)
   have q12 : vs 12 = _ := hv 12 (by decide)
   have q13 : vs 13 = _ := hv 13 (by decide)
   have q14 : vs 14 = _ := hv 14 (by decide)
   have q15 : vs 15 = _ := hv 15 (by decide)
   have q16 : vs 16 = _ := hv 16 (by decide)
   have q17 : vs 17 = _ := hv 17 (by decide)
   have q18 : vs 18 = _ := hv 18 (by decide)
   have q19 : vs 19 = _ := hv 19 (by decide)
   have q20 : vs 20 = _ := hv 20 (by decide)
   have q21 : vs 21 = _ := hv 21 (by decide)
   have q22 : vs 22 = _ := hv 22 (by decide)
   have q23 : vs 23 = _ := hv 23 (by decide)
   have q24 : vs 24 = _ := hv 24 (by decide)
   have q25 : vs 25 = _ := hv 25 (by decide)
   have q26 : vs 26 = _ := hv 26 (by decide)
   have q27 : vs 27 = _ := hv 27 (by decide)
   have q28 : vs 28 = _ := hv 28 (by decide)
   have q29 : vs 29 = _ := hv 29 (by decide)
   have q30 : vs 30 = _ := hv 30 (by decide)
   have q31 : vs 31 = _ := hv 31 (by decide)
   have S2 := Lib.hid hS
   simp only [putL, Act.put, Nat.zero_add, Nat.reduceAdd, List.setIfInBounds_toArray, List.set_cons_succ, List.set_cons_zero, q0, q1, q2, q3, q4, q5, q6, q7, q8, q9, q10, q11, q12, q13, q14, q15, q16, q17, q18, q19, q20, q21, q22, q23, q24, q25, q26, q27, q28, q29, q30, q31]
   clear hS hv q0 q1 q2 q3 q4 q5 q6 q7 q8 q9 q10 q11 q12 q13 q14 q15 q16 q17 q18 q19 q20 q21 q22 q23 q24 q25 q26 q27 q28 q29 q30 q31
   have T3 := S2
   clear S2 T2
   go_wp2_with fail
   refine (show Calls Tryd.prog 48 #[.pointer (some ⟨p, 0, none⟩), .int .i64 0, .int .i64 3] _ _ from (Cell_yes (i := 0) (j := 3) (l := k16_5[0]'(by rw [k16_len5]; decide)) (x := k16_c) T3.out (k := 1) rfl (by decide) (by decide) (by simp) k16_at3)).mono ?_
   rintro e w3 ⟨rfl, hS⟩
   have T35 := Lib.hid hS
   clear hS T3
   go_upto_region 8 with (fail)
   refine at_objsC (T35.out.alloc1 (c1 := cv k16_c) (t1 := 71)) (fun W3 hW3 => ?_)
   generalize w3.heap.size = b4 at hW3 ⊢
   have T4 := Lib.hid (show Objs w W3 [.box b3 54 (pv pen0), .grid p 58 ((4 : Nat) : Int) k16_5, .box b4 71 (cv k16_c)] from (Objs.pick (σ := [_, _, _]) (os := []) hW3 [some 1, some 2, some 0] (by decide) rfl))
   clear hW3 T35
   refine wp_region_stage (w0 := w) (os := []) (by kernel_rfl) (by kernel_rfl) (by kernel_rfl) [(1, 12, [], fun vs => .grid p 58 ((4 : Nat) : Int) k16_6)] [[2], [], [], [], [], [], [], [], [], [], [0], [], [1], [], []] [.box b3 54 (pv pen0), .grid p 58 ((4 : Nat) : Int) k16_5, .box b4 71 (cv k16_c)] (fun opn u => match opn with | 0 => u = .agg (cv k16_c) | 1 => u = .agg (cv k16_c) | 2 => u = .bool false | 3 => u = .bool false | 4 => u = .int .i64 0 | 5 => u = .bool false | 6 => u = .bool false | 7 => u = .bool false | 8 => u = pt p 0 | 9 => u = .agg #[.int .i64 0, .int .i64 0, .bool false] | 10 => u = .agg (pv pen0) | 11 => u = .agg #[.int .i64 0, .int .i64 1, .bool false] | 12 => u = .bool true | 13 => u = .bool false | 14 => u = .bool false | _ => True) (fun vs => [.box b3 54 (pv pen0), .grid p 58 ((4 : Nat) : Int) k16_6, .box b4 71 (cv k16_c)]) (by kernel_rfl) (fun vs => by rfl) T4.out ?_ ?_
   ·apply sc
    ·intro a w' vs σ hS hl hs hk
     have f4 : a.tmps[4]?.getD undef = .pointer (some ⟨b4, 0, none⟩) := sof hk
     have hx := (hS.box (sg (hs 2 (by decide)))).cellAt
     exact rp (.agg (cv k16_c)) (by simp [execOp, Act.eval, f4, go_sem, hx]) hl hs hS
    apply sc
    ·intro a w' vs σ hS hl hs hk
     exact rp (.agg (cv k16_c)) (by simp [execOp, Act.eval, go_sem, cv_ne, k16_c]) hl hs hS
    apply sc
    ·intro a w' vs σ hS hl hs hk
     have f97 : a.tmps[97]?.getD undef = .agg (cv k16_c) := sf hk 0
     have f98 : a.tmps[98]?.getD undef = .agg (cv k16_c) := sf hk 1
     exact rp (.bool false) (by simp [execOp, Act.eval, f97, f98, go_sem]) hl hs hS
    apply sc
    ·intro a w' vs σ hS hl hs hk
     have f99 : a.tmps[99]?.getD undef = .bool false := sf hk 2
     exact rp (.bool false) (by simp [execOp, Act.eval, f99, go_sem]) hl hs hS
    apply sc
    ·intro a w' vs σ hS hl hs hk
     have f5 : a.tmps[5]?.getD undef = .int .i64 0 := sof hk
     exact rq (.int .i64 0) (wanted_yes rfl rfl rfl (sv hk 3)) (by simp [execOp, Act.eval, f5, go_sem]) hl hs hS
    apply sc
    ·intro a w' vs σ hS hl hs hk
     have f101 : a.tmps[101]?.getD undef = .int .i64 0 := sf hk 4
     exact rq (.bool false) (wanted_yes rfl rfl rfl (sv hk 3)) (by simp [execOp, Act.eval, f101, go_sem]) hl hs hS
    apply sc
    ·intro a w' vs σ hS hl hs hk
     have f100 : a.tmps[100]?.getD undef = .bool false := sf hk 3
     have f102 : a.tmps[102]?.getD undef = .bool false := sf hk 5
     exact rp (.bool false) (by simp [execOp, Act.eval, f100, f102, go_sem]) hl hs hS
    apply sc
    ·intro a w' vs σ hS hl hs hk
     have f103 : a.tmps[103]?.getD undef = .bool false := sf hk 6
     exact rp (.bool false) (by simp [execOp, Act.eval, f103, go_sem]) hl hs hS
    apply sc
    ·intro a w' vs σ hS hl hs hk
     have f1 : a.tmps[1]?.getD undef = .pointer (some ⟨p, 0, none⟩) := sof hk
     exact rq (pt p 0) (wanted_yes rfl rfl rfl (sv hk 7)) (by simp [execOp, Act.eval, f1, go_sem]) hl hs hS
    apply sc
    ·intro a w' vs σ hS hl hs hk
     exact ro_call (f := 64) (wanted_yes rfl rfl rfl (sv hk 7)) rfl (by simp only [List.map_toArray, List.map_cons, List.map_nil, Act.eval] <;> rfl) (fun _ _ => by kernel_rfl) ((l16at_any 0 false hS).mono fun e w2 ⟨h1, h2⟩ => ⟨_, h1, sp_same (by kernel_rfl) hl hs h2 rfl, trivial⟩)
    apply sc
    ·intro a w' vs σ hS hl hs hk
     have f3 : a.tmps[3]?.getD undef = .pointer (some ⟨b3, 0, none⟩) := sof hk
     have hx := (hS.box (sg (hs 0 (by decide)))).penAt
     exact rq (.agg (pv pen0)) (wanted_yes rfl rfl rfl (sv hk 7)) (by simp [execOp, Act.eval, f3, go_sem, hx]) hl hs hS
    apply sc
    ·intro a w' vs σ hS hl hs hk
     exact ro_call (f := 64) (wanted_yes rfl rfl rfl (sv hk 7)) rfl (by simp only [List.map_toArray, List.map_cons, List.map_nil, Act.eval] <;> rfl) (fun _ _ => by kernel_rfl) ((l16at_any 1 false hS).mono fun e w2 ⟨h1, h2⟩ => ⟨_, h1, sp_same (by kernel_rfl) hl hs h2 rfl, trivial⟩)
    apply sc
    ·intro a w' vs σ hS hl hs hk
     have e105 : a.tmps.getD 105 undef = .pointer (some ⟨p, 0, none⟩) := sv hk 8
     have e106 : a.tmps.getD 106 undef = .agg #[.int .i64 0, .int .i64 0, .bool false] := sv hk 9
     have e107 : a.tmps.getD 107 undef = .agg (pv pen0) := sv hk 10
     have e108 : a.tmps.getD 108 undef = .agg #[.int .i64 0, .int .i64 1, .bool false] := sv hk 11
     exact ro_call (f := 27) (wanted_yes rfl rfl rfl (sv hk 7)) rfl (by simp only [List.map_toArray, List.map_cons, List.map_nil, Act.eval, e105, e106, e107, e108] <;> rfl) (fun _ _ => by kernel_rfl) ((k16_print (j := 0) HT.out hS (k := 1) (sg (hs 1 (by decide))) k16_len5 k16_rect5 (by decide +kernel) (by decide +kernel) (by decide +kernel) (by decide +kernel) (by decide +kernel) rfl rfl rfl).mono fun e w2 ⟨h1, h2⟩ => ⟨_, h1, sp_set 1 (.grid p 58 ((4 : Nat) : Int) k16_6) (by kernel_rfl) (by simp) (by decide) hl hs (by rfl) h2 rfl, trivial⟩)
    apply sc
    ·intro a w' vs σ hS hl hs hk
     have f109 : a.tmps[109]?.getD undef = .bool true := sf hk 12
     exact rq (.bool false) (wanted_yes rfl rfl rfl (sv hk 7)) (by simp [execOp, Act.eval, f109, go_sem]) hl hs hS
    apply sc
    ·intro a w' vs σ hS hl hs hk
     have f104 : a.tmps[104]?.getD undef = .bool false := sf hk 7
     have f110 : a.tmps[110]?.getD undef = .bool false := sf hk 13
     exact rp (.bool false) (by simp [execOp, Act.eval, f104, f110, go_sem]) hl hs hS
    exact SSteps.nil
   ·intro vs w' hS hv
    have q0 : vs 0 = _ := hv 0 (by decide)
    have q1 : vs 1 = _ := hv 1 (by decide)
    have q2 : vs 2 = _ := hv 2 (by decide)
    have q3 : vs 3 = _ := hv 3 (by decide)
    have q4 : vs 4 = _ := hv 4 (by decide)
    have q5 : vs 5 = _ := hv 5 (by decide)
    have q6 : vs 6 = _ := hv 6 (by decide)
    have q7 : vs 7 = _ := hv 7 (by decide)
    have q8 : vs 8 = _ := hv 8 (by decide)
    have q9 : vs 9 = _ := hv 9 (by decide)
    have q10 : vs 10 = _ := hv 10 (by decide)
    have q11 : vs 11 = _ := hv 11 (by decide)
    have q12 : vs 12 = _ := hv 12 (by decide)
    have q13 : vs 13 = _ := hv 13 (by decide)
    have q14 : vs 14 = _ := hv 14 (by decide)
    have S2 := Lib.hid hS
    simp only [putL, Act.put, Nat.zero_add, Nat.reduceAdd, List.setIfInBounds_toArray, List.set_cons_succ, List.set_cons_zero, q0, q1, q2, q3, q4, q5, q6, q7, q8, q9, q10, q11, q12, q13, q14]
    clear hS hv q0 q1 q2 q3 q4 q5 q6 q7 q8 q9 q10 q11 q12 q13 q14
    have T5 := S2
    clear S2 T4
    go_wp2_with fail
    refine (show Calls Tryd.prog 49 #[.pointer (some ⟨p, 0, none⟩), .int .i64 0] _ _ from (Line_yes (i := 0) T5.out (k := 1) rfl (by decide) k16_row (by decide))).mono ?_
    rintro e w4 ⟨v, rfl, hS⟩
    obtain ⟨A, c6, rfl, -⟩ := hS.cellsRd (k := 0) rfl
    obtain ⟨gl, rfl, -, -, -, -⟩ := (hS.own (k := 0) rfl).head (by decide)
    have hq0 := cells_facts hS (k := 0) rfl (i := 0) (c := k16c 122) rfl
    have hq1 := cells_facts hS (k := 0) rfl (i := 1) (c := k16c 97) rfl
    have hq2 := (cells_facts hS (k := 0) rfl (i := 2) (c := ⟨20013, 769, 0, 0, 2, pen0⟩) rfl).2.2.1
    have hq3 := (cells_facts hS (k := 0) rfl (i := 3) (c := cell0) rfl).2.2.1
    have hr0 := rune_of hq0.2.2.1
    have hr1 := rune_of hq1.2.2.1
    have hz := hq0.2.2.2.2
    clear hq0 hq1
    simp only [Nat.zero_mul, Nat.one_mul, Nat.reduceMul] at hr0 hr1 hq2 hq3
    have T6 := Lib.hid hS
    clear hS T5
    go_wp2_with fail
    go_ret
    exact ⟨rfl, T6.out.alloc1.base⟩
end Go.Proofs.YtppijfjigcoifaaDoor

namespace Go.Proofs.YtppijfjigcoifaaDoor
open Go.RowKit

def NoneG (w : World) (gp : Value) : Prop := ∀ w', Below w.heap.size w w' → Calls Tryd.prog 57 #[gp] w' fun e w2 => e = .returned (.bool true) ∧ Below w'.heap.size w' w2
theorem NoneG.bel {w w' : World} {gp : Value} (h : NoneG w gp) (hb : Below w.heap.size w w') : NoneG w' gp := fun w2 hb2 => h w2 (hb.trans (hb2.mono hb.size))
section
variable {w : World} {gp : Value}
end
section
variable {w0 w : World} {os : List Ob} {k p cols : Nat} {L : List Ln} {gp : Value}
end
end Go.Proofs.YtppijfjigcoifaaDoor

namespace Go.Proofs.YtppijfjigcoifaaDoor
open Go.RowKit

section
variable {w : World} {gp : Value}
theorem Rows_blk {p : Nat} {t : TypeId} (h : Blk w p t #[.int .i64 0, .slice none 0 0]) : Calls Tryd.prog 17 #[.pointer (some ⟨p, 0, none⟩)] w fun e w' => e = .returned (.int .i64 0) ∧ w = w' := by
 obtain ⟨hx, hf, hz⟩ := h.facts
 go_enter Tryd.func17, Tryd.ntmps17
 go_wp2_with fail
 go_ret
 exact ⟨rfl, rfl⟩
end
end Go.Proofs.YtppijfjigcoifaaDoor

set_option linter.constructorNameAsVariable false
set_option maxRecDepth 100000
namespace Go.Proofs.YtppijfjigcoifaaDoor
open Go.ChangeShapes Go.WideShapes Go.ChangeAt Go.RowKit Go.Deep Go.WideElems

section
variable {H : Type} {enc : TypeId × Value → H}

theorem trodAll_below {P : Program} (hl : laidOutB P = true) {W W' : World} (hb : Below W.heap.size W W') {sp : Nat → Bool} : ∀ (ts : List TypeId) (vs : List Value) (ds : List (DataW H)) (ps : List MemPlace), (∀ t ∈ ts, P.readableRec t = true ∧ t < P.types.size) →
  DataW.TrodAll enc P W 0 (fun _ => true) true ts vs ds ps → (∀ x ∈ ps, x.block < W.heap.size) → (∀ x ∈ ps, sp x.block = true) → DataW.TrodAll enc P W' 0 sp true ts vs ds ps
 | [], [], [], ps, _, h, _, _ => h
 | t :: ts, v :: vs, d :: ds, ps, ht, h, hlt, hs => by
  obtain ⟨p, q, h1, h2, rfl⟩ := h
  exact ⟨p, q, Trod_stays hl (ht t (by simp)).1 (ht t (by simp)).2 h1 (fun x hx => hb.same (hlt x (by simp [hx]))) (fun x hx => hs x (by simp [hx])),
   trodAll_below hl hb ts vs ds q (fun u hu => ht u (by simp [hu])) h2 (fun x hx => hlt x (by simp [hx])) (fun x hx => hs x (by simp [hx])), rfl⟩
 | [], _ :: _, _, _, _, h, _, _ => by cases h
 | [], [], _ :: _, _, _, h, _, _ => by cases h
 | _ :: _, [], _, _, _, h, _, _ => by cases h
 | _ :: _, _ :: _, [], _, _, h, _, _ => by cases h

theorem law_post {P : Program} {f : Func} {s : ChangeSpec} {W W' : World} {args : Array Value} {ds gs : List (DataW H)} {before : List MemPlace} {tb : TypeId} (hv : s.vars = []) (hl : laidOutB P = true)
  (hW : DataW.Whole enc P f.params.toList s.vars false W args.toList ds gs before) (hpar : ∀ t ∈ f.params.toList, P.readableRec t = true ∧ t < P.types.size)
  (hfn : gs = [] → (s.fn H (ds ++ gs)).results = [.lit (.bool true)] ∧ (s.fn H (ds ++ gs)).args = ds ∧ (s.fn H (ds ++ gs)).vars = []) (hr : f.resultTypes = #[tb]) (htb : P.underlying tb = some .bool) (hb : Below W.heap.size W W') :
  s.post enc P f false true false false W args (.bool true) W' := by
 have hlt : ∀ p ∈ before, p.block < W.heap.size := fun p hp => hW.lt p hp
 have hW' := hW
 obtain ⟨p, q, hA, hV, rfl, hfz, hnd⟩ := hW
 rw [hv] at hV
 obtain ⟨rfl, rfl⟩ := trodVars_none hV
 obtain ⟨f1, f2, f3⟩ := hfn rfl
 have hargs : ∀ sp : Nat → Bool, (∀ x ∈ p, sp x.block = true) → DataW.TrodAll enc P W' 0 sp true f.params.toList args.toList (s.fn H (ds ++ [])).args p := fun sp hs => by
  rw [f2]; exact trodAll_below hl hb _ _ _ _ hpar hA (fun x hx => hlt x (by simp [hx])) hs
 have hres : ∀ (b : Nat) (sp : Nat → Bool) (hd : Bool), DataW.TrodAll enc P W' b sp hd f.resultTypes.toList ((Value.bool true).resultList f.resultTypes.size) (s.fn H (ds ++ [])).results [] := fun b sp hd => by
  rw [f1, hr]; exact trodAll_cons_mk (shut_bool htb _) trodAll_mk0
 have hvars : ∀ sp : Nat → Bool, DataW.TrodVars enc P W' sp s.vars (s.fn H (ds ++ [])).vars [] := fun sp => by rw [hv, f3]; rfl
 have hold : ∀ x ∈ p, (fun b => decide (b < W.heap.size)) x.block = true := fun x hx => by simpa using hlt x (by simp [hx])
 refine ⟨ds, [], p ++ [], [], p, [], hW', hres _ _ _, hargs _ hold, hvars _, World.keptBut_mono (fun x hx => ⟨hx, ?_⟩) (hb.frame (· ∈ p ++ [])), fun h => by cases h⟩
 exact Or.inr (by simpa using hx)

section
variable {w : World} {base : Nat} {sp : Nat → Bool} {hd : Bool} {fuel : Nat} {cs : List Value} {x : DataW H × List MemPlace}
theorem cells_color : Tryd.prog.cellsOf 51 = 5 := by kernel_rfl
theorem cells_pen : Tryd.prog.cellsOf 54 = 11 := by kernel_rfl
theorem cells_i32 : Tryd.prog.cellsOf 21 = 1 := by kernel_rfl
theorem cells_int : Tryd.prog.cellsOf 3 = 1 := by kernel_rfl
theorem cells_u8 : Tryd.prog.cellsOf 5 = 1 := by kernel_rfl
theorem cells_kind : Tryd.prog.cellsOf 49 = 1 := by kernel_rfl
theorem cells_flags : Tryd.prog.cellsOf 52 = 1 := by kernel_rfl
theorem num_field {P : Program} {t : TypeId} {k : IntKind} {c : Value} {y : Option (DataW H × List MemPlace)} (ht : P.underlying t = some (.int k)) (hy : y.isSome = true) (h : DataW.trod enc P w base sp hd fuel t [c] = y) : ∃ n, c = .int k n := by
 obtain ⟨z, hz⟩ := Option.isSome_iff_exists.1 hy
 obtain ⟨n, hn, _⟩ := DataW.trod_int ht (h.trans hz)
 exact ⟨n, by simpa using hn⟩
theorem trod_color (h : DataW.trod enc Tryd.prog w base sp hd fuel 51 cs = some x) : ∃ k i r g b, cs = [.int .i64 k, .int .u8 i, .int .u8 r, .int .u8 g, .int .u8 b] := by
 obtain ⟨xs, n, _, _, hlen, hxl, hf⟩ := DataW.trod_struct Tryd.underlying51 h
 rw [cells_color] at hlen
 match cs, hlen, hf with
 | [c0, c1, c2, c3, c4], _, hf =>
  have h0 : DataW.trod enc Tryd.prog w base sp hd n 49 (([c0, c1, c2, c3, c4].drop 0).take (Tryd.prog.cellsOf 49)) = xs[0]? := hf 0 _ rfl
  have h1 : DataW.trod enc Tryd.prog w base sp hd n 5 (([c0, c1, c2, c3, c4].drop 1).take (Tryd.prog.cellsOf 5)) = xs[1]? := hf 1 _ rfl
  have h2 : DataW.trod enc Tryd.prog w base sp hd n 5 (([c0, c1, c2, c3, c4].drop 2).take (Tryd.prog.cellsOf 5)) = xs[2]? := hf 2 _ rfl
  have h3 : DataW.trod enc Tryd.prog w base sp hd n 5 (([c0, c1, c2, c3, c4].drop 3).take (Tryd.prog.cellsOf 5)) = xs[3]? := hf 3 _ rfl
  have h4 : DataW.trod enc Tryd.prog w base sp hd n 5 (([c0, c1, c2, c3, c4].drop 4).take (Tryd.prog.cellsOf 5)) = xs[4]? := hf 4 _ rfl
  simp only [cells_kind, cells_u8, List.drop_zero, List.drop_succ_cons, List.take_succ_cons, List.take_zero] at h0 h1 h2 h3 h4
  obtain ⟨k, rfl⟩ := num_field Tryd.underlying49 (by simp [hxl]) h0
  obtain ⟨i, rfl⟩ := num_field Tryd.underlying5 (by simp [hxl]) h1
  obtain ⟨r, rfl⟩ := num_field Tryd.underlying5 (by simp [hxl]) h2
  obtain ⟨g, rfl⟩ := num_field Tryd.underlying5 (by simp [hxl]) h3
  obtain ⟨b, rfl⟩ := num_field Tryd.underlying5 (by simp [hxl]) h4
  exact ⟨k, i, r, g, b, rfl⟩
theorem some_of {α : Type} {y : Option α} (h : y.isSome = true) : ∃ z, y = some z := Option.isSome_iff_exists.1 h
theorem trod_pen (h : DataW.trod enc Tryd.prog w base sp hd fuel 54 cs = some x) : ∃ q : Pen, cs = (pv q).toList := by
 obtain ⟨xs, n, _, _, hlen, hxl, hf⟩ := DataW.trod_struct Tryd.underlying54 h
 rw [cells_pen] at hlen
 have h0 : DataW.trod enc Tryd.prog w base sp hd n 51 ((cs.drop 0).take (Tryd.prog.cellsOf 51)) = xs[0]? := hf 0 _ rfl
 have h1 : DataW.trod enc Tryd.prog w base sp hd n 51 ((cs.drop 5).take (Tryd.prog.cellsOf 51)) = xs[1]? := hf 1 _ rfl
 have h2 : DataW.trod enc Tryd.prog w base sp hd n 52 ((cs.drop 10).take (Tryd.prog.cellsOf 52)) = xs[2]? := hf 2 _ rfl
 obtain ⟨z0, e0⟩ := some_of (show (xs[0]?).isSome = true by simp [hxl])
 obtain ⟨z1, e1⟩ := some_of (show (xs[1]?).isSome = true by simp [hxl])
 simp only [cells_color, cells_flags] at h0 h1 h2
 obtain ⟨k, i, r, g, b, hc0⟩ := trod_color (h0.trans e0)
 obtain ⟨k', i', r', g', b', hc1⟩ := trod_color (h1.trans e1)
 match cs, hlen with
 | [c0, c1, c2, c3, c4, c5, c6, c7, c8, c9, c10], _ =>
  simp only [List.drop_zero, List.drop_succ_cons, List.take_succ_cons, List.take_zero] at h2 hc0 hc1
  obtain ⟨fl, rfl⟩ := num_field Tryd.underlying52 (by simp [hxl]) h2
  simp only [List.cons.injEq, and_true] at hc0 hc1
  obtain ⟨rfl, rfl, rfl, rfl, rfl⟩ := hc0
  obtain ⟨rfl, rfl, rfl, rfl, rfl⟩ := hc1
  exact ⟨⟨k, i, r, g, b, k', i', r', g', b', fl⟩, rfl⟩
end
end
end Go.Proofs.YtppijfjigcoifaaDoor

set_option linter.constructorNameAsVariable false
set_option maxRecDepth 100000
namespace Go.Proofs.YtppijfjigcoifaaDoor
open Go.ChangeShapes Go.WideShapes Go.ChangeAt Go.RowKit Go.Deep Go.WideElems

section
variable {H : Type} {enc : TypeId × Value → H}
theorem cells_bool : Tryd.prog.cellsOf 4 = 1 := by kernel_rfl
end
end Go.Proofs.YtppijfjigcoifaaDoor

set_option linter.constructorNameAsVariable false
set_option maxRecDepth 100000
namespace Go.Proofs.YtppijfjigcoifaaDoor
open Go.ChangeShapes Go.WideShapes Go.ChangeAt Go.RowKit Go.Deep Go.WideElems

section
variable {H : Type} {enc : TypeId × Value → H}
theorem cells_cursor : Tryd.prog.cellsOf 48 = 3 := by kernel_rfl
theorem trod_cursor {w : World} {base : Nat} {sp : Nat → Bool} {fuel : Nat} {cs : List Value} {x : DataW H × List MemPlace} {hd : Bool} (h : DataW.trod enc Tryd.prog w base sp hd fuel 48 cs = some x) : ∃ r c b, cs = [.int .i64 r, .int .i64 c, .bool b] := by
 obtain ⟨xs, n, _, _, hlen, hxl, hf⟩ := DataW.trod_struct Tryd.underlying48 h
 rw [cells_cursor] at hlen
 match cs, hlen, hf with
 | [c0, c1, c2], _, hf =>
  have h0 : DataW.trod enc Tryd.prog w base sp hd n 3 (([c0, c1, c2].drop 0).take (Tryd.prog.cellsOf 3)) = xs[0]? := hf 0 _ rfl
  have h1 : DataW.trod enc Tryd.prog w base sp hd n 3 (([c0, c1, c2].drop 1).take (Tryd.prog.cellsOf 3)) = xs[1]? := hf 1 _ rfl
  have h2 : DataW.trod enc Tryd.prog w base sp hd n 4 (([c0, c1, c2].drop 2).take (Tryd.prog.cellsOf 4)) = xs[2]? := hf 2 _ rfl
  obtain ⟨z2, e2⟩ := some_of (show (xs[2]?).isSome = true by simp [hxl])
  simp only [cells_int, cells_bool, List.drop_zero, List.drop_succ_cons, List.take_succ_cons, List.take_zero] at h0 h1 h2
  obtain ⟨r, rfl⟩ := num_field Tryd.underlying3 (by simp [hxl]) h0
  obtain ⟨c, rfl⟩ := num_field Tryd.underlying3 (by simp [hxl]) h1
  obtain ⟨b, hb, _⟩ := DataW.trod_bool Tryd.underlying4 (h2.trans e2)
  simp only [List.cons.injEq, and_true] at hb
  subst hb
  exact ⟨r, c, b, rfl⟩
theorem open_cursor {v : Value} {w : World} {r : Reach} {b0 base : Nat} {sp : Nat → Bool} {hd : Bool} {d : DataW H} {p : List MemPlace} (hv : Value.okWide Tryd.prog w r b0 48 v) (h : DataW.Trod enc Tryd.prog w base sp hd 48 v d p) : ∃ r c b, v = .agg #[.int .i64 r, .int .i64 c, .bool b] := by
 obtain ⟨cs, rfl, _⟩ := okWide_struct Tryd.underlying48 hv
 obtain ⟨fuel, hf⟩ := h
 obtain ⟨r, c, b, he⟩ := trod_cursor hf
 exact ⟨r, c, b, by rw [show cs = #[.int .i64 r, .int .i64 c, .bool b] from by simpa [Value.cells] using congrArg List.toArray he]⟩
end
end Go.Proofs.YtppijfjigcoifaaDoor

set_option linter.constructorNameAsVariable false
set_option maxRecDepth 100000
namespace Go.Proofs.YtppijfjigcoifaaDoor
open Go.ChangeShapes Go.WideShapes Go.ChangeAt Go.RowKit Go.Deep Go.WideElems

section
variable {H : Type} {enc : TypeId × Value → H}
end
end Go.Proofs.YtppijfjigcoifaaDoor

set_option linter.constructorNameAsVariable false
set_option maxRecDepth 100000
namespace Go.Proofs.YtppijfjigcoifaaDoor
open Go.ChangeShapes Go.WideShapes Go.ChangeAt Go.RowKit Go.Deep Go.WideElems

instance : Inhabited Act14 := ⟨⟨0, 0, 0, 0, 0, cell0, none, 0, [], false, pen0⟩⟩
section
variable {H : Type} {enc : TypeId × Value → H}
end
structure ALine where
 A : Option Addr
 c : Nat
 cs : List Cell
 s : Bool
instance : Inhabited ALine := ⟨⟨none, 0, [], false⟩⟩
section
variable {H : Type} {enc : TypeId × Value → H}
end
end Go.Proofs.YtppijfjigcoifaaDoor

set_option maxRecDepth 100000
namespace Go.Proofs.YtppijfjigcoifaaDoor
open Go.ChangeShapes Go.WideShapes Go.ChangeAt Go.RowKit Go.Deep Go.WideElems

section
variable {H : Type} {enc : TypeId × Value → H}
end
end Go.Proofs.YtppijfjigcoifaaDoor

set_option linter.constructorNameAsVariable false
set_option maxRecDepth 100000
namespace Go.Proofs.YtppijfjigcoifaaDoor
open Go.ChangeShapes Go.WideShapes Go.ChangeAt Go.RowKit Go.Deep Go.WideElems

instance : Inhabited Act16 := ⟨⟨0, 0, 0, pen0, false, false⟩⟩
section
variable {H : Type} {enc : TypeId × Value → H}
theorem cells_act16 : Tryd.prog.cellsOf 56 = 16 := by kernel_rfl
theorem trod_act16 {w : World} {base : Nat} {sp : Nat → Bool} {fuel : Nat} {cs : List Value} {x : DataW H × List MemPlace} {hd : Bool} (h : DataW.trod enc Tryd.prog w base sp hd fuel 56 cs = some x) : ∃ a : Act16, cs = (av16 a).toList := by
 obtain ⟨xs, n, _, _, hlen, hxl, hf⟩ := DataW.trod_struct Tryd.underlying56 h
 rw [cells_act16] at hlen
 have h0 : DataW.trod enc Tryd.prog w base sp hd n 3 ((cs.drop 0).take (Tryd.prog.cellsOf 3)) = xs[0]? := hf 0 _ rfl
 have h1 : DataW.trod enc Tryd.prog w base sp hd n 3 ((cs.drop 1).take (Tryd.prog.cellsOf 3)) = xs[1]? := hf 1 _ rfl
 have h2 : DataW.trod enc Tryd.prog w base sp hd n 21 ((cs.drop 2).take (Tryd.prog.cellsOf 21)) = xs[2]? := hf 2 _ rfl
 have h3 : DataW.trod enc Tryd.prog w base sp hd n 54 ((cs.drop 3).take (Tryd.prog.cellsOf 54)) = xs[3]? := hf 3 _ rfl
 have h4 : DataW.trod enc Tryd.prog w base sp hd n 4 ((cs.drop 14).take (Tryd.prog.cellsOf 4)) = xs[4]? := hf 4 _ rfl
 have h5 : DataW.trod enc Tryd.prog w base sp hd n 4 ((cs.drop 15).take (Tryd.prog.cellsOf 4)) = xs[5]? := hf 5 _ rfl
 obtain ⟨z3, e3⟩ := some_of (show (xs[3]?).isSome = true by simp [hxl])
 obtain ⟨z4, e4⟩ := some_of (show (xs[4]?).isSome = true by simp [hxl])
 obtain ⟨z5, e5⟩ := some_of (show (xs[5]?).isSome = true by simp [hxl])
 simp only [cells_int, cells_i32, cells_bool, cells_pen] at h0 h1 h2 h3 h4 h5
 obtain ⟨q, hq⟩ := trod_pen (h3.trans e3)
 match cs, hlen with
 | [c0, c1, c2, c3, c4, c5, c6, c7, c8, c9, c10, c11, c12, c13, c14, c15], _ =>
  simp only [List.drop_zero, List.drop_succ_cons, List.take_succ_cons, List.take_zero] at h0 h1 h2 h4 h5 hq
  obtain ⟨wh, rfl⟩ := num_field Tryd.underlying3 (by simp [hxl]) h0
  obtain ⟨nn, rfl⟩ := num_field Tryd.underlying3 (by simp [hxl]) h1
  obtain ⟨rr, rfl⟩ := num_field Tryd.underlying21 (by simp [hxl]) h2
  obtain ⟨b4, hb4, _⟩ := DataW.trod_bool Tryd.underlying4 (h4.trans e4)
  obtain ⟨b5, hb5, _⟩ := DataW.trod_bool Tryd.underlying4 (h5.trans e5)
  simp only [List.cons.injEq, and_true] at hb4 hb5
  subst hb4
  subst hb5
  simp only [pv, List.cons.injEq, and_true] at hq
  obtain ⟨rfl, rfl, rfl, rfl, rfl, rfl, rfl, rfl, rfl, rfl, rfl⟩ := hq
  exact ⟨⟨wh, nn, rr, q, b4, b5⟩, rfl⟩
theorem open_act16 {v : Value} {w : World} {r : Reach} {b0 base : Nat} {sp : Nat → Bool} {hd : Bool} {d : DataW H} {p : List MemPlace} (hv : Value.okWide Tryd.prog w r b0 56 v) (h : DataW.Trod enc Tryd.prog w base sp hd 56 v d p) : ∃ a : Act16, v = .agg (av16 a) := by
 obtain ⟨cs, rfl, _⟩ := okWide_struct Tryd.underlying56 hv
 obtain ⟨fuel, hf⟩ := h
 obtain ⟨a, ha⟩ := trod_act16 hf
 exact ⟨a, by rw [show cs = av16 a from by simpa [Value.cells] using ha]⟩
end
end Go.Proofs.YtppijfjigcoifaaDoor

set_option linter.constructorNameAsVariable false
set_option maxRecDepth 100000
namespace Go.Proofs.YtppijfjigcoifaaDoor
open Go.ChangeShapes Go.WideShapes Go.ChangeAt Go.RowKit Go.Deep Go.WideElems

theorem own_knob : ownKnob Tryd.prog.godebug = none := by kernel_rfl
theorem laid_out : laidOutB Tryd.prog = true := by kernel_rfl
def pairData {H : Type} (x : Int × Int) : DataW H := .agg [.lit (.int .i32 x.1), .lit (.int .i32 x.2)]
theorem cells_pair : Tryd.prog.cellsOf 126 = 2 := by kernel_rfl
section
variable {H : Type} {enc : TypeId × Value → H} {w : World} {base : Nat} {sp : Nat → Bool} {hd : Bool} {fuel : Nat} {cs : List Value}
theorem num_lit {t : TypeId} {c : Value} {n : Int} {p : List MemPlace} (ht : Tryd.prog.underlying t = some (.int .i32)) (h : DataW.trod enc Tryd.prog w base sp hd fuel t [c] = some (.lit (.int .i32 n), p)) : c = .int .i32 n := by
 obtain ⟨m, hm, hx, _⟩ := DataW.trod_int ht h
 simp only [Prod.mk.injEq, DataW.lit.injEq, Lit.int.injEq, true_and] at hx
 simp only [List.cons.injEq, and_true] at hm
 rw [hm, hx.1]
theorem trod_pair {x : Int × Int} {p : List MemPlace} (h : DataW.trod enc Tryd.prog w base sp hd fuel 126 cs = some (pairData x, p)) : cs = [.int .i32 x.1, .int .i32 x.2] := by
 obtain ⟨xs, n, _, hx, hlen, hxl, hf⟩ := DataW.trod_array Tryd.underlying126 h
 rw [cells_pair] at hlen
 match cs, hlen, xs, hxl, hf, hx with
 | [c0, c1], _, [y0, y1], _, hf, hx =>
  have h0 := hf 0 (by omega)
  have h1 := hf 1 (by omega)
  simp only [cells_i32, Nat.zero_mul, Nat.one_mul, List.drop_zero, List.drop_succ_cons, List.take_succ_cons, List.take_zero, List.getElem?_cons_zero, List.getElem?_cons_succ] at h0 h1
  simp only [pairData, List.map_cons, List.map_nil, Prod.mk.injEq, DataW.agg.injEq, List.cons.injEq, and_true] at hx
  obtain ⟨y0a, y0b⟩ := y0
  obtain ⟨y1a, y1b⟩ := y1
  obtain ⟨⟨e0, e1⟩, _⟩ := hx
  simp only at e0 e1
  subst e0 e1
  rw [num_lit Tryd.underlying21 h0, num_lit Tryd.underlying21 h1]
theorem trod_table {t : TypeId} {tab : List (Int × Int)} {p : List MemPlace} (ht : Tryd.prog.underlying t = some (.array tab.length 126)) (h : DataW.trod enc Tryd.prog w base sp hd fuel t cs = some (.agg (tab.map pairData), p)) :
  ∀ k, k < tab.length → cs[k * 2]? = some (.int .i32 (loOf tab k)) ∧ cs[k * 2 + 1]? = some (.int .i32 (hiOf tab k)) := by
 obtain ⟨xs, n, _, hx, hlen, hxl, hf⟩ := DataW.trod_array ht h
 intro k hk
 have hkf := hf k hk
 rw [cells_pair] at hkf
 have hk2 : k < xs.length := by omega
 rw [List.getElem?_eq_getElem hk2] at hkf
 simp only [Prod.mk.injEq, DataW.agg.injEq] at hx
 have he : xs[k].1 = pairData tab[k] := by
  have := congrArg (fun l => l[k]?) hx.1
  simp only [List.getElem?_map, List.getElem?_eq_getElem hk, List.getElem?_eq_getElem hk2, Option.map_some, Option.some.injEq] at this
  exact this.symm
 have hp := trod_pair (x := tab[k]) (p := xs[k].2) (by rw [hkf, ← he])
 have g0 := congrArg (fun l => l[0]?) hp
 have g1 := congrArg (fun l => l[1]?) hp
 simp only [List.getElem?_take, List.getElem?_drop, List.getElem?_cons_zero, List.getElem?_cons_succ, Nat.add_zero] at g0 g1
 simp only [loOf, hiOf, List.getD_eq_getElem?_getD, List.getElem?_eq_getElem hk, Option.getD_some]
 exact ⟨by simpa using g0, by simpa using g1⟩
end
theorem pairs_of {W : World} {name : String} {g : Nat} {t : TypeId} {tab : List (Int × Int)} {cs : Array Value} {fuel : Nat} {p : List MemPlace} {base : Nat} {sp : Nat → Bool} {hd : Bool} {H : Type} {enc : TypeId × Value → H} (hg : Tryd.prog.globalNamed name = some g) (ht : Tryd.prog.underlying t = some (.array tab.length 126))
  (hv : W.var? Tryd.prog name = some cs) (h : DataW.trod enc Tryd.prog W base sp hd fuel t cs.toList = some (.agg (tab.map pairData), p)) (hn : 0 < tab.length) : Pairs W g tab.length (loOf tab) (hiOf tab) := by
 have hc := World.var?_cell hg hv
 have htb := trod_table ht h
 refine ⟨?_, fun k hk => ?_⟩
 ·have := (htb 0 hn).1
  have h0 := hc 0
  simp only [Nat.zero_mul, Array.getElem?_toList] at this
  rw [this] at h0
  exact block_lt_of_cell h0
 ·obtain ⟨h1, h2⟩ := htb k hk
  rw [hc, hc]
  exact ⟨by simpa using h1, by simpa using h2⟩
theorem tabs_of {W : World} (h : laidMetH Tryd.prog Rows.gridSizesRow.laid W) : Tabs W := by
 have h' : laidMet Tryd.prog Rows.gridSizesRow.laid W := h
 obtain ⟨ps, ⟨g, t, cs, fuel, p, q, hg, ht, hv, hd, ⟨g2, t2, cs2, fuel2, p2, q2, hg2, ht2, hv2, hd2, _⟩, _⟩, _⟩ := h'
 have e1 : Tryd.prog.globalNamed "scrollback/width.marks" = some 0 := by kernel_rfl
 have e2 : Tryd.prog.globalNamed "scrollback/width.wide" = some 1 := by kernel_rfl
 obtain rfl := Option.some.inj (e1.symm.trans hg)
 obtain rfl := Option.some.inj (e2.symm.trans hg2)
 have f1 : (Tryd.prog.globals[0]?).map (·.type) = some 127 := by kernel_rfl
 have f2 : (Tryd.prog.globals[1]?).map (·.type) = some 128 := by kernel_rfl
 obtain rfl := Option.some.inj (f1.symm.trans ht)
 obtain rfl := Option.some.inj (f2.symm.trans ht2)
 exact ⟨pairs_of (tab := marksTab) e1 Tryd.underlying127 hv hd (by decide), pairs_of (tab := wideTab) e2 Tryd.underlying128 hv2 hd2 (by decide)⟩
def setTab (n : Nat) (tab : List (Int × Int)) (h : Array Obj) : Array Obj := h.modify n fun
 | .cells _ t frozen => .cells (tab.flatMap fun x => [Value.int .i32 x.1, Value.int .i32 x.2]).toArray t frozen
 | o => o
noncomputable def laidWorld (os : Os) : World :=
 { World.holding Tryd.prog os ⟨#[], #[], []⟩ with heap := setTab 1 wideTab (setTab 0 marksTab (World.holding Tryd.prog os ⟨#[], #[], []⟩).heap) }
end Go.Proofs.YtppijfjigcoifaaDoor
