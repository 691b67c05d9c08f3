/-
  Layer 6: the statements' own helpers.
-/
import Derived.Test.YtmfhepjmmpnkaaaDoorTxt
set_option linter.unusedSimpArgs false
set_option linter.unusedVariables false
namespace Go.Proofs.YtmfhepjmmpnkaaaDoor
open Go.RowKit

set_option maxHeartbeats 1000000 in
theorem l06is_any (A : Option Addr) (ca : Nat) (xs : List Cell) (s : Bool) (e : Int) (B : Option Addr) (cb : Nat) (ys : List Cell) (t : Bool) (no : Int) (w : World) (ha : RdC w A ca xs) (hb : RdC w B cb ys) (hn : xs.length ≤ 1000000) (hm : ys.length ≤ 1000000) :
    Calls Tryd.prog 46 #[.agg #[.slice A xs.length ca, .bool s], .int .i64 e, .agg #[.slice B ys.length cb, .bool t], .int .i64 no] w fun e' w' => e' = .returned (.bool (eqL xs s ys t && decide (e = no))) ∧ Below w.heap.size w w' := by
  have HA := Lib.hid ha
  have HB := Lib.hid hb
  clear ha hb
  have HC := Lib.hid (r06Same_any A B ca cb xs ys s t _ ((HA.out.alloc (.cells #[.slice A xs.length ca, .bool s] 59)).alloc (.cells #[.slice B ys.length cb, .bool t] 59)) ((HB.out.alloc _).alloc _) hn hm)
  generalize eqL xs s ys t = d at HC ⊢
  cases d
  · go_enter Tryd.func46, Tryd.ntmps46
    go_wp2_with fail
    refine HC.out.mono ?_
    rintro e1 w1 ⟨rfl, hb⟩
    go_wp2_with fail
    go_ret
    exact ⟨rfl, bel1 (bel1 hb)⟩
  · by_cases h : e = no
    · have h' : (e == no) = true := by simpa using h
      have HD := Lib.hid (show decide (e = no) = true by simpa using h)
      clear h
      go_enter Tryd.func46, Tryd.ntmps46
      go_wp2_with fail
      refine HC.out.mono ?_
      rintro e1 w1 ⟨rfl, hb⟩
      go_wp2_with fail
      go_ret
      exact ⟨by rw [HD.out]; rfl, bel1 (bel1 hb)⟩
    · have h' : (e == no) = false := by simpa using h
      have HD := Lib.hid (show decide (e = no) = false by simpa using h)
      clear h
      go_enter Tryd.func46, Tryd.ntmps46
      go_wp2_with fail
      refine HC.out.mono ?_
      rintro e1 w1 ⟨rfl, hb⟩
      go_wp2_with fail
      go_ret
      exact ⟨by rw [HD.out]; rfl, bel1 (bel1 hb)⟩
theorem l06small_any (A : Option Addr) (c : Nat) (cs : List Cell) (s : Bool) (w : World) (hm : cs.length ≤ 9223372036854775807) : Calls Tryd.prog 47 #[.agg #[.slice A cs.length c, .bool s]] w fun e w' => e = .returned (.bool (decide (cs.length ≤ 40))) ∧ Below w.heap.size w w' := by
  by_cases h : cs.length ≤ 40
  · go_enter Tryd.func47, Tryd.ntmps47
    go_wp2_with fail
    go_ret
    exact ⟨by simp [h]; omega, belA _ _⟩
  · go_enter Tryd.func47, Tryd.ntmps47
    go_wp2_with fail
    go_ret
    exact ⟨by simp [h]; omega, belA _ _⟩
theorem small_yes {cs : List Cell} (h : cs.length ≤ 40) (A : Option Addr) (c : Nat) (s : Bool) (w : World) : Calls Tryd.prog 47 #[.agg #[.slice A cs.length c, .bool s]] w fun e w' => e = .returned (.bool true) ∧ Below w.heap.size w w' := (l06small_any A c cs s w (by omega)).mono fun e w' ⟨h1, h2⟩ => ⟨by rw [h1]; simp [h], h2⟩
theorem small_no {cs : List Cell} (h : ¬ cs.length ≤ 40) (hm : cs.length ≤ 9223372036854775807) (A : Option Addr) (c : Nat) (s : Bool) (w : World) : Calls Tryd.prog 47 #[.agg #[.slice A cs.length c, .bool s]] w fun e w' => e = .returned (.bool false) ∧ Below w.heap.size w w' := (l06small_any A c cs s w hm).mono fun e w' ⟨h1, h2⟩ => ⟨by rw [h1]; simp [h], h2⟩
theorem l06list_any (A : Option Addr) (n c : Nat) (w : World) : Calls Tryd.prog 75 #[.slice A n c] w fun e w' => e = .returned (.slice A n c) ∧ w = w' := by
  go_enter Tryd.func75, Tryd.ntmps75
  go_wp2_with fail
  go_ret
  exact ⟨rfl, rfl⟩
theorem l06hard_any (A : Option Addr) (n c : Nat) (w : World) : Calls Tryd.prog 74 #[.slice A n c] w fun e w' => e = .returned (.agg #[.slice A n c, .bool false]) ∧ Below w.heap.size w w' := by
  go_enter Tryd.func74, Tryd.ntmps74
  go_wp2_with fail
  refine bodyPost_ret (results_c1 Tryd.results74 _ _ w.heap.size _ _ rfl (Blk.new w 59 #[.slice A n c, .bool false]) Tryd.underlying59 rfl line_size) rfl ?_
  exact ⟨rfl, belA _ _⟩

set_option maxHeartbeats 1000000 in
theorem l06news_any (n : Int) (l : List Cell) (s : Bool) (e : Int) (B : Option Addr) (cb : Nat) (ys : List Cell) (t : Bool) (no : Int) (w : World) (hc : ∀ w', Below w.heap.size w w' → Calls Tryd.prog 77 #[.int .i64 n] w' (LineEnd l s e w')) (hb : RdC w B cb ys) (hn : l.length ≤ 1000000) (hm : ys.length ≤ 1000000) :
    Calls Tryd.prog 40 #[.int .i64 n, .agg #[.slice B ys.length cb, .bool t], .int .i64 no] w fun e' w' => e' = .returned (.bool (eqL l s ys t && decide (e = no))) ∧ Below w.heap.size w w' := by
  have HC := Lib.hid hc
  have HW := Lib.hid hb
  clear hc hb
  go_enter Tryd.func40, Tryd.ntmps40
  go_wp2_with fail
  refine (HC.out _ (belA _ _)).mono ?_
  rintro e1 w1 ⟨v, rfl, ho, hb⟩
  obtain ⟨A1, c1, rfl, hr⟩ := ho.form
  obtain ⟨kw, hb1⟩ := box1 hb
  have HR := Lib.hid hr
  have HB := Lib.hid hb1
  obtain ⟨hx0, hf0, hz0⟩ := kw.facts
  clear ho hb hb1 hr kw
  go_wp2_with fail
  refine (l06is_any _ _ _ _ _ _ _ _ _ _ _ (HR.out.alloc _) ((HW.out.bel HB.out).alloc _) hn hm).mono ?_
  rintro e2 w2 ⟨rfl, hb2⟩
  go_wp2_with fail
  go_ret
  exact ⟨rfl, HB.out.trans ((bel1 hb2).mono HB.out.size)⟩

set_option maxHeartbeats 1000000 in
theorem l06of_any (A : Option Addr) (n c : Nat) (ls : Bool) (l : List Cell) (s : Bool) (e : Int) (B : Option Addr) (cb : Nat) (ys : List Cell) (t : Bool) (no : Int) (w : World) (hc : ∀ w', Below w.heap.size w w' → Calls Tryd.prog 45 #[.slice A n c, .bool ls] w' (LineEnd l s e w')) (hb : RdC w B cb ys) (hn : l.length ≤ 1000000) (hm : ys.length ≤ 1000000) :
    Calls Tryd.prog 44 #[.slice A n c, .bool ls, .agg #[.slice B ys.length cb, .bool t], .int .i64 no] w fun e' w' => e' = .returned (.bool (eqL l s ys t && decide (e = no))) ∧ Below w.heap.size w w' := by
  have HC := Lib.hid hc
  have HW := Lib.hid hb
  clear hc hb
  go_enter Tryd.func44, Tryd.ntmps44
  go_wp2_with fail
  refine (HC.out _ (belA _ _)).mono ?_
  rintro e1 w1 ⟨v, rfl, ho, hb⟩
  obtain ⟨A1, c1, rfl, hr⟩ := ho.form
  obtain ⟨kw, hb1⟩ := box1 hb
  have HR := Lib.hid hr
  have HB := Lib.hid hb1
  obtain ⟨hx0, hf0, hz0⟩ := kw.facts
  clear ho hb hb1 hr kw
  go_wp2_with fail
  refine (l06is_any _ _ _ _ _ _ _ _ _ _ _ (HR.out.alloc _) ((HW.out.bel HB.out).alloc _) hn hm).mono ?_
  rintro e2 w2 ⟨rfl, hb2⟩
  go_wp2_with fail
  go_ret
  exact ⟨rfl, HB.out.trans ((bel1 hb2).mono HB.out.size)⟩

set_option maxHeartbeats 1000000 in
theorem l06trims_any (A : Option Addr) (c : Nat) (cs : List Cell) (ls : Bool) (l : List Cell) (s : Bool) (e : Int) (B : Option Addr) (cb : Nat) (ys : List Cell) (t : Bool) (no : Int) (w : World) (hc : ∀ w', Below w.heap.size w w' → Calls Tryd.prog 58 #[.agg #[.slice A cs.length c, .bool ls]] w' (LineEnd l s e w')) (hb : RdC w B cb ys) (hn : l.length ≤ 1000000) (hm : ys.length ≤ 1000000) :
    Calls Tryd.prog 56 #[.agg #[.slice A cs.length c, .bool ls], .agg #[.slice B ys.length cb, .bool t], .int .i64 no] w fun e' w' => e' = .returned (.bool (eqL l s ys t && decide (e = no))) ∧ Below w.heap.size w w' := by
  have HC := Lib.hid hc
  have HW := Lib.hid hb
  clear hc hb
  go_enter Tryd.func56, Tryd.ntmps56
  go_wp2_with fail
  refine (HC.out _ ((belA _ _).trans ((belA _ _).mono (by simp)))).mono ?_
  rintro e1 w1 ⟨v, rfl, ho, hb⟩
  obtain ⟨A1, c1, rfl, hr⟩ := ho.form
  obtain ⟨-, kw, hb1⟩ := box2 hb
  have HR := Lib.hid hr
  have HB := Lib.hid hb1
  obtain ⟨hx0, hf0, hz0⟩ := kw.facts
  clear ho hb hb1 hr kw
  go_wp2_with fail
  refine (l06is_any _ _ _ _ _ _ _ _ _ _ _ (HR.out.alloc _) ((HW.out.bel HB.out).alloc _) hn hm).mono ?_
  rintro e2 w2 ⟨rfl, hb2⟩
  go_wp2_with fail
  go_ret
  exact ⟨rfl, HB.out.trans ((bel1 hb2).mono HB.out.size)⟩

set_option maxHeartbeats 1000000 in
theorem l06fits_any (A : Option Addr) (c : Nat) (cs : List Cell) (ls : Bool) (n : Int) (l : List Cell) (s : Bool) (e : Int) (B : Option Addr) (cb : Nat) (ys : List Cell) (t : Bool) (no : Int) (w : World) (hc : ∀ w', Below w.heap.size w w' → Calls Tryd.prog 60 #[.agg #[.slice A cs.length c, .bool ls], .int .i64 n] w' (LineEnd l s e w')) (hb : RdC w B cb ys) (hn : l.length ≤ 1000000) (hm : ys.length ≤ 1000000) :
    Calls Tryd.prog 57 #[.agg #[.slice A cs.length c, .bool ls], .int .i64 n, .agg #[.slice B ys.length cb, .bool t], .int .i64 no] w fun e' w' => e' = .returned (.bool (eqL l s ys t && decide (e = no))) ∧ Below w.heap.size w w' := by
  have HC := Lib.hid hc
  have HW := Lib.hid hb
  clear hc hb
  go_enter Tryd.func57, Tryd.ntmps57
  go_wp2_with fail
  refine (HC.out _ ((belA _ _).trans ((belA _ _).mono (by simp)))).mono ?_
  rintro e1 w1 ⟨v, rfl, ho, hb⟩
  obtain ⟨A1, c1, rfl, hr⟩ := ho.form
  obtain ⟨-, kw, hb1⟩ := box2 hb
  have HR := Lib.hid hr
  have HB := Lib.hid hb1
  obtain ⟨hx0, hf0, hz0⟩ := kw.facts
  clear ho hb hb1 hr kw
  go_wp2_with fail
  refine (l06is_any _ _ _ _ _ _ _ _ _ _ _ (HR.out.alloc _) ((HW.out.bel HB.out).alloc _) hn hm).mono ?_
  rintro e2 w2 ⟨rfl, hb2⟩
  go_wp2_with fail
  go_ret
  exact ⟨rfl, HB.out.trans ((bel1 hb2).mono HB.out.size)⟩

set_option maxHeartbeats 1000000 in
theorem l06puts_any (A : Option Addr) (c : Nat) (cs : List Cell) (ls : Bool) (at_ : Int) (A2 : Option Addr) (n2 c2 : Nat) (l : List Cell) (s : Bool) (e : Int) (B : Option Addr) (cb : Nat) (ys : List Cell) (t : Bool) (no : Int) (w : World) (hc : ∀ w', Below w.heap.size w w' → Calls Tryd.prog 63 #[.agg #[.slice A cs.length c, .bool ls], .int .i64 at_, .slice A2 n2 c2] w' (LineEnd l s e w')) (hb : RdC w B cb ys) (hn : l.length ≤ 1000000) (hm : ys.length ≤ 1000000) :
    Calls Tryd.prog 76 #[.agg #[.slice A cs.length c, .bool ls], .int .i64 at_, .slice A2 n2 c2, .agg #[.slice B ys.length cb, .bool t], .int .i64 no] w fun e' w' => e' = .returned (.bool (eqL l s ys t && decide (e = no))) ∧ Below w.heap.size w w' := by
  have HC := Lib.hid hc
  have HW := Lib.hid hb
  clear hc hb
  go_enter Tryd.func76, Tryd.ntmps76
  go_wp2_with fail
  refine (HC.out _ ((belA _ _).trans ((belA _ _).mono (by simp)))).mono ?_
  rintro e1 w1 ⟨v, rfl, ho, hb⟩
  obtain ⟨A1, c1, rfl, hr⟩ := ho.form
  obtain ⟨-, kw, hb1⟩ := box2 hb
  have HR := Lib.hid hr
  have HB := Lib.hid hb1
  obtain ⟨hx0, hf0, hz0⟩ := kw.facts
  clear ho hb hb1 hr kw
  go_wp2_with fail
  refine (l06is_any _ _ _ _ _ _ _ _ _ _ _ (HR.out.alloc _) ((HW.out.bel HB.out).alloc _) hn hm).mono ?_
  rintro e2 w2 ⟨rfl, hb2⟩
  go_wp2_with fail
  go_ret
  exact ⟨rfl, HB.out.trans ((bel1 hb2).mono HB.out.size)⟩

end Go.Proofs.YtmfhepjmmpnkaaaDoor
