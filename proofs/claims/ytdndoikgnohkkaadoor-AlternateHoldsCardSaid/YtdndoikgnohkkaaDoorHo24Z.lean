/-
  AlternateHolds: the law returns true.
-/
import Derived.Test.YtdndoikgnohkkaaDoorB4
import Derived.Deep.DeepCutAuto
import Derived.Deep.CutBlock
set_option linter.unusedSimpArgs false
set_option linter.unusedVariables false
namespace Go.Proofs.YtdndoikgnohkkaaDoor
open Go.RowKit

def HoS (rr : Nat) (s s2 : Pr) (y2 : Saved) : Prop := s2.good rr ∧ (¬ s.mode = 0 → s2.cols = s.cols ∧ s2.M = s.M) ∧ ∀ z, s2.kept = some z → z = y2
def softE (n : Int) (R : Nat) : Int := if here14 n R = true then 0 else 3
def softR24 (n : Int) (L : List Ln) : List Ln := if here14 n L.length = true then softMod n.toNat true L else L
theorem kept_setU (s : Pr) (L : List Ln) : (s.setU L).kept = s.kept := by unfold Pr.setU; split <;> rfl
theorem softR24_k24 {n : Int} {cols rr : Nat} {L : List Ln} (h : K24 cols rr L) : K24 cols rr (softR24 n L) := by
 unfold softR24
 split
 ·exact ⟨h.1.softMod _ _, by rw [softMod_length]; exact h.2.1, h.2.2.softMod _ _⟩
 ·exact h
section
variable {rr : Nat} {s : Pr} {y : Saved}
theorem hoS_same (h : s.good rr) (hy : ∀ z, s.kept = some z → z = y) : HoS rr s s y := ⟨h, fun _ => ⟨rfl, rfl⟩, hy⟩
theorem hoS_setU {L : List Ln} (h : s.good rr) (hy : ∀ z, s.kept = some z → z = y) (hL : K24 s.cols rr L) : HoS rr s (s.setU L) y := by
 refine ⟨h.setU hL, fun hm => ?_, fun z hz => hy z (by rw [kept_setU] at hz; exact hz)⟩
 unfold Pr.setU
 rw [if_neg hm]
 exact ⟨rfl, rfl⟩
theorem ent_yes_mode {n : Int} {x : Saved} {q : Pen} (h : entE n x q s = 0) : s.mode = 0 ∧ (n = 1049 → q.ok = true) := by
 unfold entE at h
 split at h
 ·cases h
 ·rename_i h1
  split at h
  ·cases h
  ·rename_i h2
   exact ⟨Classical.not_not.1 h2, fun hn => ((Classical.not_not.1 h1).2 hn).2⟩
theorem ent_kept {n : Int} {x : Saved} {q : Pen} (hn : n = 1049) : (entN n x q s).kept = some x := by unfold entN; rw [if_pos hn]
theorem ent_kept2 {n : Int} {x : Saved} {q : Pen} (hn : ¬ n = 1049) : (entN n x q s).kept = s.kept := by unfold entN; rw [if_neg hn]
theorem hoS_ent {n : Int} {x : Saved} {q : Pen} (h : s.good rr) (he : entE n x q s = 0) (hn : n = 1049) : HoS rr s (entN n x q s) x :=
 ⟨entN_good h (ent_yes_mode he).2, fun hm => absurd (ent_yes_mode he).1 hm, fun z hz => by rw [ent_kept hn] at hz; exact (Option.some.inj hz).symm⟩
theorem hoS_ent2 {n : Int} {x : Saved} {q : Pen} (h : s.good rr) (hy : ∀ z, s.kept = some z → z = y) (he : entE n x q s = 0) (hn : ¬ n = 1049) : HoS rr s (entN n x q s) y :=
 ⟨entN_good h (ent_yes_mode he).2, fun hm => absurd (ent_yes_mode he).1 hm, fun z hz => hy z (by rw [ent_kept2 hn] at hz; exact hz)⟩
theorem lv_kept {n : Int} {q : Pen} (hn : n = 1049) : (lvN n q s).kept = none := by unfold lvN; rw [if_neg (by omega), if_pos hn]
theorem lv_kept2 {n : Int} {q : Pen} (hn : ¬ n = 1049) : (lvN n q s).kept = s.kept := by unfold lvN; by_cases h : n = 1047; (rw [if_pos h]); (rw [if_neg h, if_neg hn])
theorem lv_yes {n : Int} {q : Pen} (h : lvE n q s = 0) : n = 1047 → q.ok = true := by
 unfold lvE at h
 split at h
 ·cases h
 ·rename_i h1
  exact (Classical.not_not.1 h1).2
theorem hoS_lv {n : Int} {q : Pen} (h : s.good rr) (hy : ∀ z, s.kept = some z → z = y) (he : lvE n q s = 0) : HoS rr s (lvN n q s) y := by
 refine ⟨lvN_good h (lv_yes he), fun _ => ?_, fun z hz => ?_⟩
 ·unfold lvN; split; exact ⟨rfl, rfl⟩; split <;> exact ⟨rfl, rfl⟩
 ·by_cases hn : n = 1049
  ·rw [lv_kept hn] at hz; cases hz
  ·rw [lv_kept2 hn] at hz; exact hy z hz
theorem ent_is (n : Int) (x : Saved) (q : Pen) (s : Pr) : (¬ entE n x q s = 0 ∧ entS n x q s = s) ∨ (entE n x q s = 0 ∧ n = 1049 ∧ entS n x q s = entN n x q s) ∨ (entE n x q s = 0 ∧ ¬ n = 1049 ∧ entS n x q s = entN n x q s) := by
 by_cases h : entE n x q s = 0
 ·by_cases hn : n = 1049
  ·exact .inr (.inl ⟨h, hn, if_pos h⟩)
  ·exact .inr (.inr ⟨h, hn, if_pos h⟩)
 ·exact .inl ⟨h, if_neg h⟩
end
structure Of24 (a : Act24) : Prop where
 n1 : 1 ≤ a.n
 n2 : a.n ≤ 1000
 l1 : 1 ≤ a.L.length
 ok : ∀ l ∈ a.L, lineOk l.1 = true
def ofL24 (a : Act24) : List Ln := a.L.map fun l => (fitTo a.n.toNat l.1, l.2)
theorem ofL24_k {a : Act24} (h : Of24 a) : K24 a.n.toNat a.L.length (ofL24 a) := by
 refine ⟨fun l hl => ?_, by simp [ofL24], fun l hl => ?_⟩
 ·obtain ⟨l', -, rfl⟩ := List.mem_map.1 hl
  exact fitTo_length _ _
 ·obtain ⟨l', hl', rfl⟩ := List.mem_map.1 hl
  exact rowOk_is.1 (fit_row _ (ok_row (h.ok l' hl')))
theorem Of24.c0 {a : Act24} (h : Of24 a) : 0 < a.n.toNat := by have := h.n1; omega
theorem Of24.r0 {a : Act24} (h : Of24 a) : 0 < a.L.length := h.l1
theorem Of24.cm {a : Act24} (h : Of24 a) : a.n.toNat ≤ 1000 := by have := h.n2; omega
section
variable {w0 w : World} {os : List Ob} {p : Nat} {s : Pr}
theorem gridOf_yes24 {a : Act24} (hT : Tabs w0) (hS : Objs w0 w os) (hok : Ok24 w0 a) (hf : Few24 a) (h : Of24 a) : Calls Tryd.prog 24 #[.int .i64 a.n, .slice a.A a.L.length a.c] w fun e w' => ∃ g, e = .returned (.tuple #[.pointer (some ⟨g, 0, none⟩), .int .i64 0]) ∧ Objs w0 w' (.grid g 83 a.n.toNat (ofL24 a) :: os) := by
 have hn : a.n = (a.n.toNat : Int) := by have := h.n1; omega
 have hcon := gridOf_yes a.A a.c a.L a.n.toNat w (hS.tabs hT) (hok.1.bel hS.base) h.c0 h.cm h.l1 (by have := hf.1; omega) (fun l hl => by have := hf.2 l hl; omega) h.ok
 rw [show (Value.int .i64 a.n) = .int .i64 ((a.n.toNat : Nat) : Int) by rw [← hn]]
 exact hcon.mono fun e w' ⟨g, h1, h2⟩ => ⟨g, h1, hS.nest h2⟩
theorem gridOf_no24 {a : Act24} (hT : Tabs w0) (hS : Objs w0 w os) (hok : Ok24 w0 a) (hf : Few24 a) (h : ¬ Of24 a) : Calls Tryd.prog 24 #[.int .i64 a.n, .slice a.A a.L.length a.c] w fun e w' => e = .returned (.tuple #[.pointer none, .int .i64 2]) ∧ Objs w0 w' os := by
 by_cases ha : a.L.length < 1 ∨ 1000 < a.L.length ∨ a.n < 1 ∨ 1000 < a.n
 ·exact (gridOf_arg a.A a.c a.L.length a.n w (by have := hf.1; omega) ha).mono fun e w' ⟨h1, h2⟩ => ⟨h1, h2 ▸ hS⟩
 ·have hn : a.n = (a.n.toNat : Int) := by omega
  have hcon := gridOf_bad a.A a.c a.L a.n.toNat w (hS.tabs hT) (hok.1.bel hS.base) (by omega) (by omega) (by omega) (by omega) (fun l hl => by have := hf.2 l hl; omega) (by
   refine Classical.byContradiction fun hno => h ⟨by omega, by omega, by omega, fun l hl => ?_⟩
   cases hv : lineOk l.1
   ·exact absurd ⟨l, hl, hv⟩ hno
   ·rfl)
  rw [← hn] at hcon
  exact hcon.mono fun e w' ⟨h1, h2⟩ => ⟨h1, hS.bel h2⟩
theorem Enter_is {rr : Nat} (n : Int) (x : Saved) (q : Pen) (hT : Tabs w0) (hS : Objs w0 w (pairO p s :: os)) (hg : s.good rr) :
  Calls Tryd.prog 9 #[.pointer (some ⟨p, 0, none⟩), .int .i64 n, .agg (sv x), .agg (pv q)] w fun e w' => e = .returned (.int .i64 (entE n x q s)) ∧ Objs w0 w' (pairO p (entS n x q s) :: os) := by
 unfold entS
 by_cases h : entE n x q s = 0
 ·rw [if_pos h, h]; exact Enter_yes n x q hT hS hg h
 ·rw [if_neg h]; exact Enter_no n x q hT hS h
theorem Leave_none {rr : Nat} {n : Int} {q : Pen} (hT : Tabs w0) (hS : Objs w0 w (pairO p s :: os)) (hg : s.good rr) (he : lvE n q s = 0) (hk : lvS n s = none) :
  Calls Tryd.prog 23 #[.pointer (some ⟨p, 0, none⟩), .int .i64 n, .agg (pv q)] w fun e w' => e = .returned (.tuple #[.agg (sv saved0), .bool false, .int .i64 0]) ∧ Objs w0 w' (pairO p (lvN n q s) :: os) := by
 have := Leave_yes n q hT hS hg he
 rw [hk] at this
 exact this
theorem Leave_some {rr : Nat} {n : Int} {q : Pen} {y : Saved} (hT : Tabs w0) (hS : Objs w0 w (pairO p s :: os)) (hg : s.good rr) (he : lvE n q s = 0) (hk : lvS n s = some y) :
  Calls Tryd.prog 23 #[.pointer (some ⟨p, 0, none⟩), .int .i64 n, .agg (pv q)] w fun e w' => e = .returned (.tuple #[.agg (sv y), .bool true, .int .i64 0]) ∧ Objs w0 w' (pairO p (lvN n q s) :: os) := by
 have := Leave_yes n q hT hS hg he
 rw [hk] at this
 exact this
theorem soft24_any {g cols rr : Nat} {L : List Ln} (n : Int) (hS : Objs w0 w (.grid g 83 cols L :: os)) (hc : 0 < cols) (hL : L.length = rr) (hr : rr ≤ 1000) :
  Calls Tryd.prog 26 #[.pointer (some ⟨g, 0, none⟩), .int .i64 n, .bool true] w fun e w' => e = .returned (.int .i64 (softE n L.length)) ∧ Objs w0 w' (.grid g 83 cols (softR24 n L) :: os) := by
 unfold softR24 softE
 by_cases h : here14 n L.length = true
 ·rw [if_pos h, if_pos h]
  obtain ⟨i, rfl, hi⟩ := here14_nat h
  exact SetSoftG true hS (k := 0) rfl hc hi (by omega)
 ·rw [if_neg h, if_neg h]
  exact SetSoftN true hS (k := 0) rfl hc (by simpa using h)
theorem softFn24 {a : Act24} {g b cols rr : Nat} {L : List Ln} {zs : List Ob} {x0 x1 : Ob} (h : Objs w0 w (.grid g 83 cols L :: (zs ++ [x0, .box b 66 (av24 a), x1]))) (hc : 0 < cols) (hL : L.length = rr) (hr : rr ≤ 1000) :
  Calls Tryd.prog 25 (#[] ++ #[.pointer (some ⟨g, 0, none⟩)] ++ #[.pointer (some ⟨b, 0, none⟩)]) w fun e w' => e = .returned (.int .i64 (softE a.n L.length)) ∧ Objs w0 w' (.grid g 83 cols (softR24 a.n L) :: (zs ++ [x0, .box b 66 (av24 a), x1])) := by
 show Calls Tryd.prog 25 #[.pointer (some ⟨g, 0, none⟩), .pointer (some ⟨b, 0, none⟩)] w _
 have S := Lib.hid h
 have hk : (.grid g 83 cols L :: (zs ++ [x0, .box b 66 (av24 a), x1]))[zs.length + 2]? = some (.box b 66 (av24 a)) := by simp
 obtain ⟨hx12, hf12, hz12, hr12, hp12, hs12, hq12⟩ := (S.out.box hk).act24
 have HL := Lib.hid hL
 clear h hk hL
 go_enter Tryd.func25, Tryd.ntmps25
 go_wp2_with fail
 refine (soft24_any a.n S.out hc HL.out hr).mono ?_
 rintro e w1 ⟨rfl, hS⟩
 have S1 := Lib.hid hS
 clear hS
 go_wp2_with fail
 go_ret
 exact ⟨rfl, S1.out⟩
end
set_option maxRecDepth 100000 in
set_option maxHeartbeats 400000000 in
theorem l24AlternateHolds_any (rows cols : Int) (Al : Option Addr) (cl : Nat) (l : List Act24) (w : World) (hT : Tabs w) (hal : RdRec w Al cl 50 (l.map av24)) (hml : cl ≤ maxLen) (hok : ∀ a ∈ l, Ok24 w a) :
  Calls Tryd.prog 4 #[.int .i64 rows, .int .i64 cols, .slice Al l.length cl] w fun e w' => e = .returned (.bool true) ∧ Below w.heap.size w w' := by
 have HT := Lib.hid hT
 have HAL := Lib.hid hal
 have HML := Lib.hid hml
 have HOK := Lib.hid hok
 have hlm : l.length ≤ 9223372036854775807 := by have := hal.1; unfold maxLen at hml; simp at this; omega
 clear hT hal hml hok
 have hcases : (rows < 1 ∨ (1 ≤ rows ∧ 4 < rows) ∨ ((1 ≤ rows ∧ rows ≤ 4) ∧ cols < 1) ∨ ((1 ≤ rows ∧ rows ≤ 4) ∧ 1 ≤ cols ∧ 8 < cols)) ∨ ((1 ≤ rows ∧ rows ≤ 4) ∧ (1 ≤ cols ∧ cols ≤ 8)) := by omega
 rcases hcases with hno | ⟨⟨h1, h2⟩, h3, h4⟩
 ·rcases hno with h | ⟨h, h2⟩ | ⟨⟨h, h2⟩, h3⟩ | ⟨⟨h, h2⟩, h3, h4⟩
  all_goals
   go_enter Tryd.func4, Tryd.ntmps4
   go_wp2_with fail
   refine (l24known_any _ HT.out).mono ?_
   rintro e w1 ⟨rfl, hb⟩
   go_wp2_with fail
   go_ret
   exact ⟨rfl, hb⟩
 obtain ⟨r0, rfl⟩ : ∃ rr : Nat, rows = rr := ⟨rows.toNat, by omega⟩
 obtain ⟨c0, rfl⟩ : ∃ s : Nat, cols = s := ⟨cols.toNat, by omega⟩
 go_enter Tryd.func4, Tryd.ntmps4
 go_wp2_with fail
 refine (l24small_any Al cl l w HAL.out HML.out HOK.out).mono ?_
 rintro e w1 ⟨⟨b, rfl, hfew⟩, rfl⟩
 cases b with
 | false =>
  go_wp2_with fail
  refine (l24known_any _ HT.out).mono ?_
  rintro e w1 ⟨rfl, hb⟩
  go_wp2_with fail
  go_ret
  exact ⟨rfl, hb⟩
 | true =>
  have HFEW := Lib.hid (hfew rfl).2
  clear hfew
  go_wp2_with fail
  refine (pairNew_yes (w0 := w) (os := []) r0 c0 (by omega) (by omega) (by omega) (by omega) (objs_start w)).mono ?_
  rintro e w1 ⟨p, rfl, hS⟩
  have S1 := Lib.hid hS
  clear hS
  have HG0 := Lib.hid (newP_good (rows := r0) (cols := c0) (by omega) (by omega) (by omega) (by omega))
  clear h1 h2 h3 h4
  go_upto_region 7 with (fail)
  refine at_objsC (S1.out.alloc1 (c1 := sv saved0) (t1 := 35)) (fun W hW => ?_)
  generalize w1.heap.size = b9 at hW ⊢
  have S2 := Lib.hid hW.swap
  clear hW S1
  go_wp2_with fail
  go_loopg [10, 11] l.length (fun g v10 v11 wr => ∃ (k rr : Nat) (s : Pr) (y : Saved), k ≤ l.length ∧ g = l.length - k ∧ v11 = .int .i64 k ∧ v10 = .bool s.kept.isSome ∧ Hid (s.good rr ∧ ∀ z, s.kept = some z → z = y) ∧ Objs w wr [pairO p s, .box b9 35 (sv y)])
  case atStart => exact ⟨0, r0, newP r0 c0, saved0, Nat.zero_le _, rfl, rfl, rfl, Lib.hid ⟨HG0.out, fun z hz => by cases hz⟩, S2.out⟩
  case round =>
   as_aux_lemma =>
    clear S2 HG0
    obtain ⟨k, rr, s, y, hk, rfl, rfl, rfl, HGY, hS⟩ := hrel
    have S1 := Lib.hid hS
    have HG := Lib.hid HGY.out.1
    have HY := Lib.hid HGY.out.2
    clear hS HGY
    by_cases hlt : k < l.length
    case neg =>
     as_aux_lemma =>
      have hlt1 : ¬ (k : Int) < (l.length : Int) := by omega
      go_wp2_with fail
      refine (l24known_any _ (S1.out.tabs HT.out)).mono ?_
      rintro e w3 ⟨rfl, hb⟩
      have HB := Lib.hid (S1.out.bel hb).base
      clear hb
      go_wp2_with fail
      go_ret
      exact ⟨rfl, HB.out⟩
    have hk0 : (0 : Int) ≤ (k : Int) := by omega
    have hk1 : (k : Int) < (l.length : Int) := by omega
    obtain ⟨a, ha⟩ := get_of hlt
    obtain ⟨ba, oa, rfl, hba, hre⟩ := HAL.out.at_ (i := k) (r := av24 a) (by simp [ha])
    have HOA := Lib.hid (HOK.out a (List.mem_of_getElem? ha))
    have HF := Lib.hid (HFEW.out k a ha)
    have hrec := (recAt_below S1.out.base hba (oa + k * 50) 50).trans hre
    clear hre ha
    go_upto_region 12 with (fail)
    clear hrec
    refine at_objsC (S1.out.alloc1 (c1 := av24 a) (t1 := 66)) (fun W hW => ?_)
    generalize wr.heap.size = b12 at hW ⊢
    have S2 := Lib.hid hW
    clear hW S1
    obtain ⟨wb, hwb⟩ : ∃ wb, decide (¬ s.mode = 0) = wb := ⟨_, rfl⟩
    have HWB := Lib.hid hwb
    go_wp2_with fail
    have hcon := Alternate_any S2.out (k := 1) rfl
    rw [hwb] at hcon
    refine hcon.mono ?_
    rintro e w4 ⟨rfl, hS⟩
    clear hcon hwb
    have S2b := Lib.hid hS
    clear hS S2
    go_wp2_with fail
    refine (Main_at S2b.out (k := 1) rfl HG.out).mono ?_
    rintro e w5 ⟨gB, rfl, hS⟩
    have S3 := Lib.hid hS
    clear hS S2b
    obtain ⟨hx12, hf12, hz12, hr12, hp12, hs12, hq12⟩ := (S3.out.box (k := 1) rfl).act24
    go_upto_block 2 with (fail)
    go_cut [10] (fun s10 wx => ∃ (s2 : Pr) (y2 : Saved), s10 = .bool s2.kept.isSome ∧ Hid (HoS rr s s2 y2) ∧ Objs w wx [.grid gB 83 ↑s.cols s.M, .box b12 66 (av24 a), pairO p s2, .box b9 35 (sv y2)])
    case first =>
     as_aux_lemma =>
      by_cases h0 : a.what = 0
      case pos =>
       as_aux_lemma =>
        have b0 := beq_yes h0
        clear h0
        go_wp2_with fail
        refine (front_call S3.out (k := 2) rfl (fun os1 h => puts_front a.x HT.out h HG.out)).mono ?_
        rintro e w6 ⟨rfl, hS⟩
        clear hx12 hf12 hz12 hr12 hp12 hs12 hq12
        have S4 := Lib.hid hS
        clear hS S3
        go_wp2_with fail
        go_meet
        case rel => exact ⟨s.setU (putR24 a.row a.col a.x s.cols s.U), y, by rw [kept_setU], Lib.hid (hoS_setU HG.out HY.out (putR24_k24 HG.out.U)), S4.out⟩
      have b0 := beq_no h0
      by_cases h1 : a.what = 1
      case pos =>
       as_aux_lemma =>
        have b1 := beq_yes h1
        clear h0 h1
        rcases ent_is a.n a.s a.q s with ⟨hE, hS9⟩ | ⟨hE, h9, hS9⟩ | ⟨hE, h9, hS9⟩
        case' inl => have c1 := beq_no hE; have HS9 := Lib.hid hS9; clear hE hS9
        case' inr.inl => have c1 := beq_yes hE; have c2 := beq_yes h9; have HS9 := Lib.hid hS9; have HE1 := Lib.hid hE; have HN9 := Lib.hid h9; clear hE hS9 h9
        case' inr.inr => have c1 := beq_yes hE; have c2 := beq_no h9; have HS9 := Lib.hid hS9; have HE1 := Lib.hid hE; have HN9 := Lib.hid h9; clear hE hS9 h9
        ·go_wp2_with fail
         refine (front_call S3.out (k := 2) rfl (fun os1 h => Enter_is a.n a.s a.q HT.out h HG.out)).mono ?_
         rintro e w6 ⟨rfl, hS⟩
         clear hx12 hf12 hz12 hr12 hp12 hs12 hq12
         have S4 := Lib.hid (by have h := hS; rw [HS9.out] at h; exact h)
         clear hS S3
         obtain ⟨hx12, hf12, hz12, hr12, hp12, hs12, hq12⟩ := (S4.out.box (k := 1) rfl).act24
         go_wp2_with fail
         go_meet
         case rel => exact ⟨entN a.n a.s a.q s, y, by rw [ent_kept2 HN9.out], Lib.hid (hoS_ent2 HG.out HY.out HE1.out HN9.out), S4.out⟩
        ·go_wp2_with fail
         refine (front_call S3.out (k := 2) rfl (fun os1 h => Enter_is a.n a.s a.q HT.out h HG.out)).mono ?_
         rintro e w6 ⟨rfl, hS⟩
         clear hx12 hf12 hz12 hr12 hp12 hs12 hq12
         have S4 := Lib.hid (by have h := hS; rw [HS9.out] at h; exact h)
         clear hS S3
         obtain ⟨hx12, hf12, hz12, hr12, hp12, hs12, hq12⟩ := (S4.out.box (k := 1) rfl).act24
         have hst := store_sv_row w6 b9 _ a.s (S4.out.box (k := 3) rfl) (sv_size _)
         obtain ⟨hx9, hf9, hz9⟩ := (S4.out.box (k := 3) rfl).facts
         have SR := Lib.hid (S4.out.rowBox 3 (ds := sv a.s) rfl)
         go_wp2_with fail
         go_meet
         case rel => exact ⟨entN a.n a.s a.q s, a.s, by rw [show (entN a.n a.s a.q s).kept = some a.s from ent_kept HN9.out]; rfl, Lib.hid (hoS_ent HG.out HE1.out HN9.out), SR.out⟩
        ·go_wp2_with fail
         refine (front_call S3.out (k := 2) rfl (fun os1 h => Enter_is a.n a.s a.q HT.out h HG.out)).mono ?_
         rintro e w6 ⟨rfl, hS⟩
         clear hx12 hf12 hz12 hr12 hp12 hs12 hq12
         have S4 := Lib.hid (by have h := hS; rw [HS9.out] at h; exact h)
         clear hS S3
         obtain ⟨hx12, hf12, hz12, hr12, hp12, hs12, hq12⟩ := (S4.out.box (k := 1) rfl).act24
         go_wp2_with fail
         go_meet
         case rel => exact ⟨s, y, rfl, Lib.hid (hoS_same HG.out HY.out), S4.out⟩
      have b1 := beq_no h1
      by_cases h2 : a.what = 2
      case pos =>
       as_aux_lemma =>
        have b2 := beq_yes h2
        clear h0 h1 h2
        by_cases hE : lvE a.n a.q s = 0
        case neg =>
         as_aux_lemma =>
          have c1 := beq_no hE
          obtain ⟨E, hEE⟩ : ∃ E, lvE a.n a.q s = E := ⟨_, rfl⟩
          rw [hEE] at hE c1
          have HE := Lib.hid hEE
          have HE2 := Lib.hid hE
          clear hE hEE
          go_wp2_with fail
          refine (front_call S3.out (k := 2) rfl (fun os1 h => Leave_er a.n a.q HE.out HE2.out HT.out h)).mono ?_
          rintro e w6 ⟨rfl, hS⟩
          clear hx12 hf12 hz12 hr12 hp12 hs12 hq12
          have S4 := Lib.hid hS
          clear hS S3
          go_upto_region 21 with (fail)
          refine at_objsC (S4.out.alloc1 (c1 := sv saved0) (t1 := 35)) (fun W5 hW => ?_)
          generalize w6.heap.size = b15 at hW ⊢
          have S5 := Lib.hid hW
          clear hW S4
          obtain ⟨hx12, hf12, hz12, hr12, hp12, hs12, hq12⟩ := (S5.out.box (k := 2) rfl).act24
          obtain ⟨hx15, hf15, hz15, hr15, hp15⟩ := (S5.out.box (k := 0) rfl).saved
          obtain ⟨hx9, hf9, hz9, hr9, hp9⟩ := (S5.out.box (k := 4) rfl).saved
          go_wp2_with fail
          go_meet
          case rel => exact ⟨s, y, rfl, Lib.hid (hoS_same HG.out HY.out), S5.out.tail⟩
        have HE := Lib.hid hE
        clear hE
        by_cases h9 : a.n = 1049
        case neg =>
         as_aux_lemma =>
          have c2 := beq_no h9
          have HK := Lib.hid (show lvS a.n s = none from if_neg h9)
          have HKV := Lib.hid (lv_kept2 (q := a.q) (s := s) h9)
          clear h9
          go_wp2_with fail
          refine (front_call S3.out (k := 2) rfl (fun os1 h => Leave_none HT.out h HG.out HE.out HK.out)).mono ?_
          rintro e w6 ⟨rfl, hS⟩
          clear hx12 hf12 hz12 hr12 hp12 hs12 hq12
          have S4 := Lib.hid hS
          clear hS S3
          go_upto_region 21 with (fail)
          refine at_objsC (S4.out.alloc1 (c1 := sv saved0) (t1 := 35)) (fun W5 hW => ?_)
          generalize w6.heap.size = b15 at hW ⊢
          have S5 := Lib.hid hW
          clear hW S4
          obtain ⟨hx12, hf12, hz12, hr12, hp12, hs12, hq12⟩ := (S5.out.box (k := 2) rfl).act24
          obtain ⟨hx15, hf15, hz15, hr15, hp15⟩ := (S5.out.box (k := 0) rfl).saved
          obtain ⟨hx9, hf9, hz9, hr9, hp9⟩ := (S5.out.box (k := 4) rfl).saved
          go_wp2_with fail
          go_meet
          case rel => exact ⟨lvN a.n a.q s, y, by rw [HKV.out], Lib.hid (hoS_lv HG.out HY.out HE.out), S5.out.tail⟩
        have c2 := beq_yes h9
        rcases hk : s.kept with _ | z
        case none =>
         have HK := Lib.hid (show lvS a.n s = none by unfold lvS; rw [if_pos h9, hk])
         have HKV := Lib.hid (show s.kept.isSome = (lvN a.n a.q s).kept.isSome by rw [lv_kept h9, hk])
         have HK0 := Lib.hid (show s.kept.isSome = false by rw [hk]; rfl)
         have HKN := Lib.hid (lv_kept (q := a.q) (s := s) h9)
         clear h9 hk
         go_wp2_with fail
         refine (front_call S3.out (k := 2) rfl (fun os1 h => Leave_none HT.out h HG.out HE.out HK.out)).mono ?_
         rintro e w6 ⟨rfl, hS⟩
         clear hx12 hf12 hz12 hr12 hp12 hs12 hq12
         have S4 := Lib.hid hS
         clear hS S3
         go_upto_region 21 with (fail)
         refine at_objsC (S4.out.alloc1 (c1 := sv saved0) (t1 := 35)) (fun W5 hW => ?_)
         generalize w6.heap.size = b15 at hW ⊢
         have S5 := Lib.hid hW
         clear hW S4
         obtain ⟨hx12, hf12, hz12, hr12, hp12, hs12, hq12⟩ := (S5.out.box (k := 2) rfl).act24
         obtain ⟨hx15, hf15, hz15, hr15, hp15⟩ := (S5.out.box (k := 0) rfl).saved
         obtain ⟨hx9, hf9, hz9, hr9, hp9⟩ := (S5.out.box (k := 4) rfl).saved
         go_wp2_with fail
         go_meet
         case rel => exact ⟨lvN a.n a.q s, y, by rw [HKN.out]; rfl, Lib.hid (hoS_lv HG.out HY.out HE.out), S5.out.tail⟩
        case some =>
         rw [HY.out z hk] at hk
         have HK := Lib.hid (show lvS a.n s = some y by unfold lvS; rw [if_pos h9, hk])
         have HK0 := Lib.hid (show s.kept.isSome = true by rw [hk]; rfl)
         have HKN := Lib.hid (lv_kept (q := a.q) (s := s) h9)
         clear h9 hk
         go_wp2_with fail
         refine (front_call S3.out (k := 2) rfl (fun os1 h => Leave_some HT.out h HG.out HE.out HK.out)).mono ?_
         rintro e w6 ⟨rfl, hS⟩
         clear hx12 hf12 hz12 hr12 hp12 hs12 hq12
         have S4 := Lib.hid hS
         clear hS S3
         go_upto_region 21 with (fail)
         refine at_objsC (S4.out.alloc1 (c1 := sv y) (t1 := 35)) (fun W5 hW => ?_)
         generalize w6.heap.size = b15 at hW ⊢
         have S5 := Lib.hid hW
         clear hW S4
         obtain ⟨hx12, hf12, hz12, hr12, hp12, hs12, hq12⟩ := (S5.out.box (k := 2) rfl).act24
         obtain ⟨hx15, hf15, hz15, hr15, hp15⟩ := (S5.out.box (k := 0) rfl).saved
         obtain ⟨hx9, hf9, hz9, hr9, hp9⟩ := (S5.out.box (k := 4) rfl).saved
         go_wp2_with fail
         go_meet
         case rel => exact ⟨lvN a.n a.q s, y, by rw [HKN.out]; rfl, Lib.hid (hoS_lv HG.out HY.out HE.out), S5.out.tail⟩
      have b2 := beq_no h2
      by_cases h3 : a.what = 3
      case pos =>
       as_aux_lemma =>
        have b3 := beq_yes h3
        clear h0 h1 h2 h3
        by_cases hyes : Of24 a
        case pos =>
         as_aux_lemma =>
          have HYES := Lib.hid hyes
          clear hyes
          go_wp2_with fail
          refine (gridOf_yes24 HT.out S3.out HOA.out HF.out HYES.out).mono ?_
          rintro e w6 ⟨gn, rfl, hS⟩
          clear hx12 hf12 hz12 hr12 hp12 hs12 hq12
          have S4 := Lib.hid hS
          clear hS S3
          go_wp2_with fail
          refine (pair_call S4.out (k := 3) (k2 := 0) rfl rfl (by decide) (fun rest h => Resize_front HT.out h HG.out (ofL24_k HYES.out) HYES.out.c0 HYES.out.cm HYES.out.r0 (by have := HF.out.1; omega))).mono ?_
          rintro e w7 ⟨rfl, hS⟩
          have S5 := Lib.hid hS
          clear hS S4
          go_wp2_with fail
          go_roundg (l.length - (k + 1))
          case measure => omega
          case rel => exact ⟨k + 1, _, resN a.n.toNat (ofL24 a) s, y, by omega, rfl, by go_num, rfl, Lib.hid ⟨resN_good HG.out (ofL24_k HYES.out) HYES.out.c0 HYES.out.cm HYES.out.r0 (by have := HF.out.1; omega), HY.out⟩, (Objs.pick (σ := [_, _, _, _, _]) (os := []) S5.out [some 3, some 4] (by decide) rfl)⟩
        case neg =>
         as_aux_lemma =>
          have HNO := Lib.hid hyes
          clear hyes
          go_wp2_with fail
          refine (gridOf_no24 HT.out S3.out HOA.out HF.out HNO.out).mono ?_
          rintro e w6 ⟨rfl, hS⟩
          clear hx12 hf12 hz12 hr12 hp12 hs12 hq12
          have S4 := Lib.hid hS
          clear hS S3
          go_wp2_with fail
          go_meet
          case rel => exact ⟨s, y, rfl, Lib.hid (hoS_same HG.out HY.out), S4.out⟩
      have b3 := beq_no h3
      by_cases h4 : a.what = 4
      case pos =>
       as_aux_lemma =>
        have b4 := beq_yes h4
        clear h0 h1 h2 h3 h4
        go_wp2_with fail
        refine (Do_front (f := 25) (first := #[]) (cap := #[.pointer (some ⟨b12, 0, none⟩)]) (re := softE a.n s.U.length) (L2 := softR24 a.n s.U) (os := [.grid gB 83 ↑s.cols s.M, .box b12 66 (av24 a), .box b9 35 (sv y)]) (fun _ _ => by kernel_rfl) (show Objs w _ (pairO p s :: _) from (Objs.pick (σ := [_, _, _, _]) (os := []) S3.out [some 2, some 0, some 1, some 3] (by decide) rfl)) (fun W g zs h => softFn24 h HG.out.c0 HG.out.U.2.1 HG.out.rm)).mono ?_
        rintro e w6 ⟨rfl, hS⟩
        have S4 := Lib.hid hS
        clear hS S3
        go_wp2_with fail
        clear hx12 hf12 hz12 hr12 hp12 hs12 hq12
        go_meet
        case rel => exact ⟨s.setU (softR24 a.n s.U), y, by rw [kept_setU], Lib.hid (hoS_setU HG.out HY.out (softR24_k24 HG.out.U)), (Objs.pick (σ := [_, _, _, _]) (os := []) S4.out [some 1, some 2, some 0, some 3] (by decide) rfl)⟩
      have b4 := beq_no h4
      clear h0 h1 h2 h3 h4
      go_wp2_with fail
      clear hx12 hf12 hz12 hr12 hp12 hs12 hq12
      go_meet
      case rel => exact ⟨s, y, rfl, Lib.hid (hoS_same HG.out HY.out), S3.out⟩
    case rest =>
     as_aux_lemma =>
      obtain ⟨s2, y2, rfl, HR, hS⟩ := hcut
      have S4 := Lib.hid hS
      clear hS S3 hx12 hf12 hz12 hr12 hp12 hs12 hq12
      go_wp2_with fail
      refine (Main_at S4.out (k := 2) rfl HR.out.1).mono ?_
      rintro e w7 ⟨gA, rfl, hS⟩
      have S5 := Lib.hid hS
      clear hS S4
      go_wp2_with fail
      refine (Grid_at S5.out (k := 3) rfl HR.out.1).mono ?_
      rintro e w8 ⟨gU, rfl, hS⟩
      have S6 := Lib.hid hS
      clear hS S5
      have HRU := Lib.hid HR.out.1.U.2.1
      have HRM := Lib.hid HR.out.1.M.2.1
      cases wb with
      | true =>
       have HSM := Lib.hid (HR.out.2.1 (by have := HWB.out; simpa using this))
       go_wp2_with fail
       have hcon := Same_any S6.out (k1 := 1) (k2 := 2) rfl rfl HR.out.1.c0 HG.out.c0 (by rw [HRM.out]; have := HR.out.1.rm; omega) (by rw [HG.out.M.2.1]; have := HG.out.rm; omega) (HR.out.1.M.1.mill HR.out.1.cm) (HG.out.M.1.mill HG.out.cm)
       rw [show (decide (s2.cols = s.cols) && decide (s2.M = s.M)) = true by rw [HSM.out.1, HSM.out.2]; simp] at hcon
       refine hcon.mono ?_
       rintro e w9 ⟨rfl, hS⟩
       have S7 := Lib.hid hS
       clear hS S6 hcon
       go_wp2_with fail
       have hcon := Rows_any S7.out (k := 0) rfl
       rw [HRU.out] at hcon
       refine hcon.mono ?_
       rintro e w10 ⟨rfl, hS⟩
       clear hcon S7
       have S8 := Lib.hid hS
       clear hS
       go_wp2_with fail
       have hcon := Rows_any S8.out (k := 1) rfl
       rw [HRM.out] at hcon
       refine hcon.mono ?_
       rintro e w11 ⟨rfl, hS⟩
       clear hcon S8
       have S9 := Lib.hid hS
       clear hS
       go_wp2_with fail
       refine (Cols_any S9.out (k := 0) rfl).mono ?_
       rintro e w12 ⟨rfl, hS⟩
       have S10 := Lib.hid hS
       clear hS S9
       go_wp2_with fail
       refine (Cols_any S10.out (k := 1) rfl).mono ?_
       rintro e w13 ⟨rfl, hS⟩
       have S11 := Lib.hid hS
       clear hS S10
       go_wp2_with fail
       go_roundg (l.length - (k + 1))
       case measure => omega
       case rel => exact ⟨k + 1, rr, s2, y2, by omega, rfl, by go_num, rfl, Lib.hid ⟨HR.out.1, HR.out.2.2⟩, (Objs.pick (σ := [_, _, _, _, _, _]) (os := []) S11.out [some 4, some 5] (by decide) rfl)⟩
      | false =>
       have S7 := S6
       clear S6
       go_wp2_with fail
       have hcon := Rows_any S7.out (k := 0) rfl
       rw [HRU.out] at hcon
       refine hcon.mono ?_
       rintro e w10 ⟨rfl, hS⟩
       clear hcon S7
       have S8 := Lib.hid hS
       clear hS
       go_wp2_with fail
       have hcon := Rows_any S8.out (k := 1) rfl
       rw [HRM.out] at hcon
       refine hcon.mono ?_
       rintro e w11 ⟨rfl, hS⟩
       clear hcon S8
       have S9 := Lib.hid hS
       clear hS
       go_wp2_with fail
       refine (Cols_any S9.out (k := 0) rfl).mono ?_
       rintro e w12 ⟨rfl, hS⟩
       have S10 := Lib.hid hS
       clear hS S9
       go_wp2_with fail
       refine (Cols_any S10.out (k := 1) rfl).mono ?_
       rintro e w13 ⟨rfl, hS⟩
       have S11 := Lib.hid hS
       clear hS S10
       go_wp2_with fail
       go_roundg (l.length - (k + 1))
       case measure => omega
       case rel => exact ⟨k + 1, rr, s2, y2, by omega, rfl, by go_num, rfl, Lib.hid ⟨HR.out.1, HR.out.2.2⟩, (Objs.pick (σ := [_, _, _, _, _, _]) (os := []) S11.out [some 4, some 5] (by decide) rfl)⟩
end Go.Proofs.YtdndoikgnohkkaaDoor
