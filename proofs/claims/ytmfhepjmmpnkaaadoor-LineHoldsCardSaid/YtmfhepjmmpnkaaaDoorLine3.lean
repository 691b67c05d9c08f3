/-
  line.Of, Equal, Copy; slices.Equal; the reference's New, Same.
-/
import Derived.Test.YtmfhepjmmpnkaaaDoorLine2
set_option linter.unusedSimpArgs false
set_option linter.unusedVariables false
namespace Go.Proofs.YtmfhepjmmpnkaaaDoor
open Go.RowKit

set_option maxHeartbeats 1000000 in
theorem slEqual_any (A B : Option Addr) (ca cb : Nat) (xs ys : List Cell) (w : World) (ha : RdC w A ca xs) (hb : RdC w B cb ys) (hn : xs.length ≤ 1000000) (hm : ys.length ≤ 1000000) :
    Calls Tryd.prog 81 #[.slice A xs.length ca, .slice B ys.length cb] w fun e w' => e = .returned (.bool (decide (xs = ys))) ∧ Below w.heap.size w w' := by
  have HA := Lib.hid ha
  have HB := Lib.hid hb
  clear ha hb
  by_cases hl : xs.length = ys.length
  case neg =>
    have HE := Lib.hid (show decide (xs = ys) = false by simp; intro h; exact hl (by rw [h]))
    have hl' : ((xs.length : Int) != (ys.length : Int)) = true := by rw [bne_iff_ne]; omega
    clear hl
    go_enter Tryd.func81, Tryd.ntmps81
    go_wp2_with fail
    go_ret
    exact ⟨by rw [HE.out]; rfl, Below.refl _ _⟩
  have hl' : ((xs.length : Int) != (ys.length : Int)) = false := by simp; omega
  have HL := Lib.hid hl
  clear hl
  go_enter Tryd.func81, Tryd.ntmps81
  go_wp2_with fail
  go_loopw [13] (fun i wr => ∃ k : Nat, k ≤ xs.length ∧ i = .int .i64 k ∧ (∀ j, j < k → xs[j]? = ys[j]?) ∧ Below w.heap.size w wr) (fun i _ => xs.length - (intOf i).toNat)
  case atStart => exact ⟨0, by omega, rfl, fun j hj => by omega, Below.refl _ _⟩
  case round =>
    obtain ⟨k, hk, rfl, hj, hb⟩ := hrel
    have HJ := Lib.hid hj
    have HW := Lib.hid hb
    clear hj hb
    by_cases hlt : k < xs.length
    · have hlt2 : k < ys.length := by have := HL.out; omega
      obtain ⟨b1, o1, rfl, hz1, hr1⟩ := (HA.out.bel HW.out).at_ hlt
      obtain ⟨b2, o2, rfl, hz2, hr2⟩ := (HB.out.bel HW.out).at_ hlt2
      have hc1 := elem_cell hr1 hlt
      have hc2 := elem_cell hr2 hlt2
      clear hr1 hr2
      by_cases he : xs[k] = ys[k]
      · have he' : decide (xs[k] = ys[k]) = true := by simpa using he
        have HE := Lib.hid he
        clear he
        go_wp2_with fail
        refine wp_region_below (by kernel_rfl) (by kernel_rfl) ?_
        repeat (go_big_quiet_step (fail))
        refine wpQuiet_nil ?_
        intro w2 hb2
        go_wp2_with fail
        go_roundw
        case rel => exact ⟨k + 1, by omega, by go_num, upto_succ HJ.out (by rw [List.getElem?_eq_getElem hlt, List.getElem?_eq_getElem hlt2, HE.out]), HW.out.trans (hb2.mono HW.out.size)⟩
        case measure => simp [intOf]; omega
      · have he' : decide (xs[k] = ys[k]) = false := by simpa using he
        have HE := Lib.hid (show decide (xs = ys) = false by simp; rintro rfl; exact he rfl)
        clear he
        go_wp2_with fail
        refine wp_region_below (by kernel_rfl) (by kernel_rfl) ?_
        repeat (go_big_quiet_step (fail))
        refine wpQuiet_nil ?_
        intro w2 hb2
        go_wp2_with fail
        go_ret
        exact ⟨by rw [HE.out]; rfl, HW.out.trans (hb2.mono HW.out.size)⟩
    · have HE := Lib.hid (show decide (xs = ys) = true by simp; exact upto_eq HL.out (fun j hj => HJ.out j (by omega)))
      go_wp2_with fail
      go_ret
      exact ⟨by rw [HE.out]; rfl, HW.out⟩

/-- Whether two lines are equal. -/
def eqL (xs : List Cell) (s : Bool) (ys : List Cell) (t : Bool) : Bool := decide ((xs, s) = (ys, t))
theorem eqL_self (xs : List Cell) (s : Bool) : eqL xs s xs s = true := by simp [eqL]
theorem lineEq_dec (xs ys : List Cell) (s t : Bool) : eqL xs s ys t = (decide (s = t) && decide (xs = ys)) := by unfold eqL; rw [Bool.eq_iff_iff]; simp [and_comm]
set_option maxHeartbeats 400000 in
theorem lineEqual_any (A B : Option Addr) (ca cb : Nat) (xs ys : List Cell) (s t : Bool) (w : World) (ha : RdC w A ca xs) (hb : RdC w B cb ys) (hn : xs.length ≤ 1000000) (hm : ys.length ≤ 1000000) :
    Calls Tryd.prog 52 #[.agg #[.slice A xs.length ca, .bool s], .agg #[.slice B ys.length cb, .bool t]] w fun e w' => e = .returned (.bool (eqL xs s ys t)) ∧ Below w.heap.size w w' := by
  have HA := Lib.hid ha
  have HB := Lib.hid hb
  clear ha hb
  have HD := Lib.hid (lineEq_dec xs ys s t)
  by_cases h : s = t
  · subst h
    go_enter Tryd.func52, Tryd.ntmps52
    go_wp2_with fail
    refine (slEqual_any _ _ _ _ _ _ _ ((HA.out.alloc _).alloc _) ((HB.out.alloc _).alloc _) hn hm).mono ?_
    rintro e w1 ⟨rfl, hb⟩
    go_wp2_with fail
    go_ret
    exact ⟨by rw [HD.out]; simp, bel1 (bel1 hb)⟩
  · have h' : (s == t) = false := by simpa using h
    go_enter Tryd.func52, Tryd.ntmps52
    go_wp2_with fail
    go_ret
    exact ⟨by rw [HD.out]; simp [h], (belA _ _).trans ((belA _ _).mono (by simp))⟩
set_option maxHeartbeats 400000 in
theorem r06Same_any (A B : Option Addr) (ca cb : Nat) (xs ys : List Cell) (s t : Bool) (w : World) (ha : RdC w A ca xs) (hb : RdC w B cb ys) (hn : xs.length ≤ 1000000) (hm : ys.length ≤ 1000000) :
    Calls Tryd.prog 53 #[.agg #[.slice A xs.length ca, .bool s], .agg #[.slice B ys.length cb, .bool t]] w fun e w' => e = .returned (.bool (eqL xs s ys t)) ∧ Below w.heap.size w w' := by
  have HA := Lib.hid ha
  have HB := Lib.hid hb
  clear ha hb
  have HD := Lib.hid (lineEq_dec xs ys s t)
  by_cases h : s = t
  · subst h
    go_enter Tryd.func53, Tryd.ntmps53
    go_wp2_with fail
    refine (r04Same_any _ _ _ _ _ _ _ ((HA.out.alloc _).alloc _) ((HB.out.alloc _).alloc _) hn hm).mono ?_
    rintro e w1 ⟨rfl, hb⟩
    go_wp2_with fail
    go_ret
    exact ⟨by rw [HD.out]; simp, bel1 (bel1 hb)⟩
  · have h' : (s == t) = false := by simpa using h
    go_enter Tryd.func53, Tryd.ntmps53
    go_wp2_with fail
    go_ret
    exact ⟨by rw [HD.out]; simp [h], (belA _ _).trans ((belA _ _).mono (by simp))⟩

theorem results_c1 {fn : Func} {p : Tmp} {ty tt : TypeId} {P : Program} (h : fn.results = #[.cell p ty]) (tmps : Array Value) (w : World) (g : Nat) (cs : Array Value) (d : TypeDesc)
    (hp : tmps.getD p undef = .pointer (some ⟨g, 0, none⟩)) (hg : Blk w g tt cs)
    (hu : P.underlying ty = some d) (hd : d.isRow = true) (hi : (P.info? ty).map (·.size) = some cs.size) :
    (results fn tmps).run P w = .ok (.agg cs) w := by
  have hp' : tmps[p]?.getD undef = .pointer (some ⟨g, 0, none⟩) := by simpa using hp
  simp [results, h, hp', asAddr, run_loadVar_mid w g 0 ty cs.toList d hg.range hu hd (by simpa using hi)]
set_option maxHeartbeats 400000 in
theorem lineCopy_any (A : Option Addr) (c : Nat) (cs : List Cell) (s : Bool) (w : World) (ha : RdC w A c cs) (hn : cs.length ≤ 1000000) :
    Calls Tryd.prog 55 #[.agg #[.slice A cs.length c, .bool s]] w (Line1End cs s w) := by
  have HA := Lib.hid ha
  clear ha
  go_enter Tryd.func55, Tryd.ntmps55
  go_wp2_with fail
  refine (clone_any _ _ _ _ ((HA.out.alloc _).alloc _) hn).mono ?_
  rintro e w1 ⟨v, rfl, ho, hb⟩
  obtain ⟨hk0, hk1, hb1⟩ := box2 hb
  obtain ⟨A1, c1, rfl, -⟩ := ho.form
  have HO := Lib.hid ho
  have HB := Lib.hid hb1
  have K0 := Lib.hid hk0
  have K1 := Lib.hid hk1
  obtain ⟨hx0, hf0, hz0⟩ := hk0.facts
  obtain ⟨hx1, hf1, hz1⟩ := hk1.facts
  clear ho hb hb1 hk0 hk1
  go_wp2_with fail
  have C1 := chg_setCell w1 ⟨w.heap.size, 0, none⟩ (.slice A1 cs.length c1)
  have HF := fin_line (w := w) (g := w.heap.size + 1) (v := .slice A1 cs.length c1) (l := cs) s (HB.out.trans (C1.below HB.out.size (fun k hk he => by have := (show k = w.heap.size from he); omega))) (K1.out.far (p := ⟨w.heap.size, 0, none⟩) (by simp) _) (by omega) (own_chg HO.out C1 (fun b hb he => by have := own_from HO.out b hb; have := (show b = w.heap.size from he); simp at *; omega)) (by simp)
  refine bodyPost_ret (results_c1 Tryd.results55 _ _ (w.heap.size + 1) _ _ rfl HF.1 Tryd.underlying59 rfl line_size) rfl ?_
  exact ⟨_, rfl, HF.2⟩

def ofLine (cs : List Cell) (s : Bool) : List Cell × Bool × Int := if lineOk cs = true then (cs, s, 0) else ([], false, 2)
theorem lvalid_is {cs : List Cell} {x : Bool} (h : lineOk cs = x) (A : Option Addr) (c : Nat) (s : Bool) (w : World) (ht : Tabs w) (ha : RdC w A c cs) (hn : cs.length ≤ 1000000) :
    Calls Tryd.prog 42 #[.agg #[.slice A cs.length c, .bool s]] w fun e w' => e = .returned (.bool x) ∧ Below w.heap.size w w' := h ▸ lineValid_any A c cs s w ht ha hn
theorem r6valid_is {cs : List Cell} {x : Bool} (h : lineOk cs = x) (A : Option Addr) (c : Nat) (s : Bool) (w : World) (ht : Tabs w) (ha : RdC w A c cs) (hn : cs.length ≤ 1000000) :
    Calls Tryd.prog 43 #[.agg #[.slice A cs.length c, .bool s]] w fun e w' => e = .returned (.bool x) ∧ Below w.heap.size w w' := h ▸ r06Valid_any A c cs s w ht ha hn
set_option maxHeartbeats 1000000 in
theorem lineOf_any (A : Option Addr) (c : Nat) (cs : List Cell) (s : Bool) (w : World) (ht : Tabs w) (ha : RdC w A c cs) (hn : cs.length ≤ 1000000) :
    Calls Tryd.prog 45 #[.slice A cs.length c, .bool s] w (LineEnd (ofLine cs s).1 (ofLine cs s).2.1 (ofLine cs s).2.2 w) := by
  have HT := Lib.hid ht
  have HA := Lib.hid ha
  clear ha ht
  cases hv : lineOk cs
  · have HO := Lib.hid (show ofLine cs s = ([], false, 2) by simp [ofLine, hv])
    have HV := Lib.hid hv
    clear hv
    go_enter Tryd.func45, Tryd.ntmps45
    go_wp2_with fail
    refine (clone_any _ _ _ _ (HA.out.alloc _) hn).mono ?_
    rintro e w1 ⟨v, rfl, ho, hb⟩
    obtain ⟨hk0, hb1⟩ := box1 hb
    obtain ⟨A1, c1, rfl, hr1⟩ := ho.form
    have HR := Lib.hid hr1
    have HB := Lib.hid hb1
    have K0 := Lib.hid hk0
    obtain ⟨hx0, hf0, hz0⟩ := hk0.facts
    clear ho hb hb1 hk0 hr1
    go_wp2_with fail
    refine (lvalid_is HV.out _ _ _ _ ((HT.out.bel HB.out).bel (belA _ _)) (HR.out.alloc _) hn).mono ?_
    rintro e w2 ⟨rfl, hb2⟩
    have hb3 := bel1 hb2
    have K2 := Lib.hid (K0.out.bel hb3)
    have HB2 := Lib.hid (HB.out.trans (hb3.mono HB.out.size))
    clear hb2 hb3 hx0 hf0 hz0
    obtain ⟨hx0, hf0, hz0⟩ := K2.out.facts
    go_wp2_with fail
    have HF := fin_line (w := w) (g := w.heap.size) (v := .slice none 0 0) (l := []) false HB2.out K2.out (Nat.le_refl _) (OwnC.nil w2 (w.heap.size + 1)) (by omega)
    refine bodyPost_ret (results_ct Tryd.results45 _ _ w.heap.size _ _ rfl HF.1 Tryd.underlying59 rfl line_size) rfl ?_
    exact ⟨_, by rw [HO.out]; rfl, by rw [HO.out]; exact HF.2.1, HF.2.2⟩
  · have HO := Lib.hid (show ofLine cs s = (cs, s, 0) by simp [ofLine, hv])
    have HV := Lib.hid hv
    clear hv
    go_enter Tryd.func45, Tryd.ntmps45
    go_wp2_with fail
    refine (clone_any _ _ _ _ (HA.out.alloc _) hn).mono ?_
    rintro e w1 ⟨v, rfl, ho, hb⟩
    obtain ⟨hk0, hb1⟩ := box1 hb
    obtain ⟨A1, c1, rfl, hr1⟩ := ho.form
    have HW := Lib.hid ho
    have HR := Lib.hid hr1
    have HB := Lib.hid hb1
    have K0 := Lib.hid hk0
    obtain ⟨hx0, hf0, hz0⟩ := hk0.facts
    clear ho hb hb1 hk0 hr1
    go_wp2_with fail
    refine (lvalid_is HV.out _ _ _ _ ((HT.out.bel HB.out).bel (belA _ _)) (HR.out.alloc _) hn).mono ?_
    rintro e w2 ⟨rfl, hb2⟩
    obtain ⟨k3, hb3⟩ := box1 hb2
    have K2 := Lib.hid (K0.out.bel hb3)
    have HW2 := Lib.hid (HW.out.bel hb3)
    have HB2 := Lib.hid (HB.out.trans (hb3.mono HB.out.size))
    clear hb2 hb3 hx0 hf0 hz0
    obtain ⟨hx0, hf0, hz0⟩ := K2.out.facts
    obtain ⟨hx3, hf3, hz3⟩ := k3.facts
    clear k3
    go_wp2_with fail
    have HF := fin_line (w := w) (g := w.heap.size) (v := .slice A1 cs.length c1) (l := cs) s HB2.out K2.out (Nat.le_refl _) HW2.out (by simp)
    refine bodyPost_ret (results_ct Tryd.results45 _ _ w.heap.size _ _ rfl HF.1 Tryd.underlying59 rfl line_size) rfl ?_
    exact ⟨_, by rw [HO.out]; rfl, by rw [HO.out]; exact HF.2.1, HF.2.2⟩

theorem OwnC.formN {w : World} {B n : Nat} {v : Value} {cs : List Cell} (h : OwnC w B v cs) (hn : cs.length = n) : ∃ A c, v = .slice A n c ∧ RdC w A c cs := hn ▸ h.form
theorem emp_len (n : Nat) : (empties n).length = n := by simp [empties]
theorem emp_snoc (n : Nat) : empties n ++ [blank pen0] = empties (n + 1) := by unfold empties; rw [List.replicate_succ']; rfl
set_option maxRecDepth 100000 in
set_option maxHeartbeats 1000000 in
theorem r06New_any (n : Nat) (hn : n ≤ 2000) (w : World) : Calls Tryd.prog 41 #[.int .i64 n] w (Line1End (empties n) false w) := by
  go_enter Tryd.func41, Tryd.ntmps41
  go_wp2_with fail
  go_loopw [4] (fun i wr => ∃ k : Nat, k ≤ n ∧ i = .int .i64 k ∧ (∃ A c, Blk wr (w.heap.size + 1) 59 #[.slice A k c, .bool false] ∧ OwnC wr (w.heap.size + 2) (.slice A k c) (empties k)) ∧ Blk wr w.heap.size 59 #[.slice none 0 0, .bool false] ∧ Below w.heap.size w wr) (fun i _ => n - (intOf i).toNat)
  case atStart =>
    refine ⟨0, Nat.zero_le _, rfl, ⟨none, 0, by have := Blk.new (w.alloc (.cells #[.slice none 0 0, .bool false] 59)) 59 #[.slice none 0 0, .bool false]; simpa using this, OwnC.nil _ _⟩, (Blk.new _ _ _).alloc _, bel1 (belA _ _)⟩
  case round =>
    obtain ⟨k, hk, rfl, ⟨A, c, hx1, ho⟩, hx0, hb⟩ := hrel
    have HO := Lib.hid ho
    have K1 := Lib.hid hx1
    have K0 := Lib.hid hx0
    have HB := Lib.hid hb
    obtain ⟨hc1, hf1, hz1⟩ := hx1.facts
    obtain ⟨hc0, hf0, hz0⟩ := hx0.facts
    clear hx1 hx0 ho hb
    by_cases hlt : k < n
    · go_wp2_with (first | (refine wpList_bs1 rfl _ rfl (blank pen0) rfl ?_) | (at_builtin; (refine wpList_appC rfl _ _ rfl (w.heap.size + 2) (.slice A k c) (empties k) rfl (HO.out.alloc _) _ 1 [blank pen0] rfl (RdC.lit _ _) (by simp [empties]; omega) (by simp; omega) ?_); intro v1 w4 hown hg hat; rw [emp_snoc] at hown; obtain ⟨A2, c2, rfl, -⟩ := hown.formN (emp_len (k + 1)); have HO2 := Lib.hid hown; have K1' := Lib.hid ((K1.out.alloc (.cells (fv [blank pen0]) 30)).grown hg (fun e => by have := own_from HO.out _ e.symm; omega)); have K0' := Lib.hid ((K0.out.alloc (.cells (fv [blank pen0]) 30)).grown hg (fun e => by have := own_from HO.out _ e.symm; omega)); have HB' := Lib.hid ((HB.out.alloc HB.out.size (.cells (fv [blank pen0]) 30)).grown hg (by have := HB.out.size; simp; omega) (fun q hq => by have := own_from HO.out q hq; omega)); clear hown hg hat hc1 hf1 hz1 hc0 hf0 hz0; obtain ⟨hc1, hf1, hz1⟩ := K1'.out.facts; obtain ⟨hc0, hf0, hz0⟩ := K0'.out.facts))
      have CS := chg_setCell w4 ⟨w.heap.size + 1, 0, none⟩ (.slice A2 (k + 1) c2)
      go_roundw
      case rel => exact ⟨k + 1, by omega, by go_num, ⟨A2, c2, K1'.out.set_ 0 _, own_chg HO2.out CS (fun b hb he => by have := own_from HO2.out b hb; have := (show b = w.heap.size + 1 from he); omega)⟩, K0'.out.far (by simp) _, HB'.out.setCell (by show w.heap.size ≤ w.heap.size + 1; omega) _⟩
      case measure => simp [intOf]; omega
    · obtain rfl : k = n := by omega
      go_wp2_with fail
      have HF := fin_line (w := w) (g := w.heap.size) (v := .slice A k c) (l := empties k) false HB.out K0.out (Nat.le_refl _) HO.out (by omega)
      refine bodyPost_ret (results_c1 Tryd.results41 _ _ w.heap.size _ _ rfl HF.1 Tryd.underlying59 rfl line_size) rfl ?_
      exact ⟨_, rfl, HF.2⟩
end Go.Proofs.YtmfhepjmmpnkaaaDoor
