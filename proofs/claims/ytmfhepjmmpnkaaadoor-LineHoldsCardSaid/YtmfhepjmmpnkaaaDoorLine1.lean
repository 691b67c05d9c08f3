/-
  Lines in memory; line.Valid, Used, slices.Clone, and the reference's.
-/
import Derived.Test.YtmfhepjmmpnkaaaDoorLineP
import Derived.Test.YtmfhepjmmpnkaaaDoorFix2
import Derived.Test.YtmfhepjmmpnkaaaDoorSame
import Derived.Test.YtmfhepjmmpnkaaaDoorRow2
import Derived.Test.YtmfhepjmmpnkaaaDoorMem2
import Derived.Test.YtmfhepjmmpnkaaaDoorText
import Derived.Lib.SliceRun
import Derived.WalkMore
set_option linter.unusedSimpArgs false
set_option linter.unusedVariables false
namespace Go.Proofs.YtmfhepjmmpnkaaaDoor
open Go.RowKit

theorem bel1 {w w1 : World} {o : Obj} (h : Below (w.alloc o).heap.size (w.alloc o) w1) : Below w.heap.size w w1 := ((Below.refl _ _).alloc (Nat.le_refl _) o).trans (h.mono (by simp))
theorem belA (w : World) (o : Obj) : Below w.heap.size w (w.alloc o) := (Below.refl _ _).alloc (Nat.le_refl _) o
/-- A box that the walk made last, behind a call that only makes memory. -/
theorem box1 {w w2 : World} {c : Array Value} {t : TypeId} (hb : Below (w.alloc (.cells c t)).heap.size (w.alloc (.cells c t)) w2) : Blk w2 w.heap.size t c ∧ Below w.heap.size w w2 :=
  ⟨(Blk.new w t c).bel hb, bel1 hb⟩
/-- Two boxes. -/
theorem box2 {w w2 : World} {c d : Array Value} {t u : TypeId} (hb : Below ((w.alloc (.cells c t)).alloc (.cells d u)).heap.size ((w.alloc (.cells c t)).alloc (.cells d u)) w2) : Blk w2 w.heap.size t c ∧ Blk w2 (w.heap.size + 1) u d ∧ Below w.heap.size w w2 :=
  ⟨((Blk.new w t c).alloc _).bel hb, by have := (Blk.new (w.alloc (.cells c t)) u d).bel hb; simpa using this, bel1 (bel1 hb)⟩

set_option maxHeartbeats 400000 in
theorem lineValid_any (A : Option Addr) (c : Nat) (cs : List Cell) (s : Bool) (w : World) (ht : Tabs w) (ha : RdC w A c cs) (hn : cs.length ≤ 1000000) :
    Calls Tryd.prog 42 #[.agg #[.slice A cs.length c, .bool s]] w fun e w' => e = .returned (.bool (lineOk cs)) ∧ Below w.heap.size w w' := by
  have HT := Lib.hid ht
  have HA := Lib.hid ha
  clear ht ha
  by_cases h : cs.length ≤ 1000
  · have HO := Lib.hid (show lineOk cs = rowOk cs by simp [lineOk, h])
    go_enter Tryd.func42, Tryd.ntmps42
    go_wp2_with fail
    refine (cellRow_any _ _ _ _ (HT.out.bel (belA _ _)) (HA.out.alloc _) hn).mono ?_
    rintro e w1 ⟨rfl, hb⟩
    go_wp2_with fail
    go_ret
    exact ⟨by rw [HO.out]; rfl, bel1 hb⟩
  · have HO := Lib.hid (show lineOk cs = false by simp [lineOk, h])
    go_enter Tryd.func42, Tryd.ntmps42
    go_wp2_with fail
    go_ret
    exact ⟨by rw [HO.out]; rfl, belA _ _⟩
theorem r06Columns_any (n : Int) (w : World) : Calls Tryd.prog 39 #[.int .i64 n] w fun e w' => e = .returned (.bool (decide (0 ≤ n ∧ n ≤ 1000))) ∧ Below w.heap.size w w' := by
  by_cases h0 : 0 ≤ n
  · by_cases h1 : n ≤ 1000
    · go_enter Tryd.func39, Tryd.ntmps39
      go_wp2_with fail
      go_ret
      exact ⟨by simp [h0, h1], Below.refl _ _⟩
    · go_enter Tryd.func39, Tryd.ntmps39
      go_wp2_with fail
      go_ret
      exact ⟨by simp [h0, h1], Below.refl _ _⟩
  · go_enter Tryd.func39, Tryd.ntmps39
    go_wp2_with fail
    go_ret
    exact ⟨by rw [decide_eq_false (by omega)]; rfl, Below.refl _ _⟩
theorem columns_yes {n : Int} (h : 0 ≤ n ∧ n ≤ 1000) (w : World) : Calls Tryd.prog 39 #[.int .i64 n] w fun e w' => e = .returned (.bool true) ∧ Below w.heap.size w w' := (r06Columns_any n w).mono fun e w' ⟨h1, h2⟩ => ⟨by rw [h1]; simp [h], h2⟩
theorem columns_no {n : Int} (h : ¬ (0 ≤ n ∧ n ≤ 1000)) (w : World) : Calls Tryd.prog 39 #[.int .i64 n] w fun e w' => e = .returned (.bool false) ∧ Below w.heap.size w w' := (r06Columns_any n w).mono fun e w' ⟨h1, h2⟩ => ⟨by rw [h1, decide_eq_false h], h2⟩
set_option maxHeartbeats 400000 in
theorem r06Valid_any (A : Option Addr) (c : Nat) (cs : List Cell) (s : Bool) (w : World) (ht : Tabs w) (ha : RdC w A c cs) (hn : cs.length ≤ 1000000) :
    Calls Tryd.prog 43 #[.agg #[.slice A cs.length c, .bool s]] w fun e w' => e = .returned (.bool (lineOk cs)) ∧ Below w.heap.size w w' := by
  have HA := Lib.hid ha
  clear ha ht
  by_cases h : cs.length ≤ 1000
  · have HO := Lib.hid (show lineOk cs = rowOk cs by simp [lineOk, h])
    go_enter Tryd.func43, Tryd.ntmps43
    go_wp2_with fail
    refine (columns_yes (by omega) _).mono ?_
    rintro e w1 ⟨rfl, hb⟩
    obtain ⟨hk, hb1⟩ := box1 hb
    obtain ⟨hx, hf, hz⟩ := hk.facts
    clear hb hk
    go_wp2_with fail
    refine (r04Row_any _ _ _ _ (HA.out.bel hb1) hn).mono ?_
    rintro e w2 ⟨rfl, hb2⟩
    go_wp2_with fail
    go_ret
    exact ⟨by rw [HO.out]; rfl, hb1.trans (hb2.mono hb1.size)⟩
  · have HO := Lib.hid (show lineOk cs = false by simp [lineOk, h])
    go_enter Tryd.func43, Tryd.ntmps43
    go_wp2_with fail
    refine (columns_no (by omega) _).mono ?_
    rintro e w1 ⟨rfl, hb⟩
    go_wp2_with fail
    go_ret
    exact ⟨by rw [HO.out]; rfl, bel1 hb⟩

/-- What gives a slice of cells of its own. -/
def OwnEnd (l : List Cell) (w : World) (e : Ending) (w' : World) : Prop := ∃ v, e = .returned v ∧ OwnC w' w.heap.size v l ∧ Below w.heap.size w w'
/-- An empty slice of cells in a block of its own. -/
theorem OwnC.none1 (w : World) (B : Nat) (hB : B ≤ w.heap.size) : OwnC (w.alloc (.cells #[] 30)) B (.slice (some ⟨w.heap.size, 0, none⟩) 0 0) [] :=
  ⟨by simp [flat], .inr ⟨w.heap.size, 0, #[], rfl, hB, heap_alloc_new w _, Nat.le_refl _, by simp [maxLen], by simp, by simp [flat]⟩⟩
theorem eql_nilC (w : World) (a : Option Addr) (n c : Nat) : (binOp .eql 43 (.slice a n c) (.slice none 0 0)).run Tryd.prog w = .ok (.bool a.isNone) w := Lib.run_eql_slice_nil w 43 30 a n c 0 0 Tryd.underlying43
set_option maxRecDepth 100000 in
set_option maxHeartbeats 400000 in
theorem clone_any (A : Option Addr) (c : Nat) (cs : List Cell) (w : World) (ha : RdC w A c cs) (hn : cs.length ≤ 1000000) :
    Calls Tryd.prog 78 #[.slice A cs.length c] w (OwnEnd cs w) := by
  have HA := Lib.hid ha
  have hq := eql_nilC
  cases A with
  | none =>
    obtain rfl := ha.2.1 rfl
    obtain rfl : cs = [] := List.eq_nil_of_length_eq_zero (by have := ha.1; omega)
    clear ha
    go_enter Tryd.func78, Tryd.ntmps78
    go_wp2_with fail
    go_ret
    exact ⟨_, rfl, OwnC.nil _ _, Below.refl _ _⟩
  | some ad =>
    clear ha
    go_enter Tryd.func78, Tryd.ntmps78
    go_wp2_with (at_builtin; (refine wpList_appC rfl _ _ rfl w.heap.size (.slice (some ⟨w.heap.size, 0, none⟩) 0 0) [] rfl (OwnC.none1 w _ (Nat.le_refl _)) (some ad) c cs rfl (HA.out.alloc _) (by simp; omega) (by simp) ?_); intro v1 w1 hown1 hg1 hat1; rw [List.nil_append] at hown1; have HO := Lib.hid hown1; have HB := Lib.hid ((belA w (.cells #[] 30)).grown hg1 (by simp) (by simp [Value.ownBlock])); clear hown1 hg1 hat1)
    go_ret
    exact ⟨_, rfl, HO.out, HB.out⟩

theorem empty_any (q : Cell) (w : World) : Calls Tryd.prog 36 #[.agg (cv q)] w fun e w' => e = .returned (.bool (decide (q = cEmp))) ∧ Below w.heap.size w w' := cellEmpty_any q w
set_option maxRecDepth 100000 in
set_option maxHeartbeats 1000000 in
theorem lineUsed_any (A : Option Addr) (c : Nat) (cs : List Cell) (s : Bool) (w : World) (ha : RdC w A c cs) (hn : cs.length ≤ 1000000) :
    Calls Tryd.prog 48 #[.agg #[.slice A cs.length c, .bool s]] w fun e w' => e = .returned (.int .i64 (usedOf cs)) ∧ Below w.heap.size w w' := by
  have HA := Lib.hid ha
  clear ha
  go_enter Tryd.func48, Tryd.ntmps48
  go_wp2_with fail
  go_step3
  go_wp2_with fail
  go_step3
  go_wp2_with fail
  go_loopw [3] (fun i wr => ∃ k : Nat, k ≤ cs.length ∧ i = .int .i64 k ∧ usedOf (cs.take k) = usedOf cs ∧ Blk wr w.heap.size 59 #[.slice A cs.length c, .bool s] ∧ Below w.heap.size w wr) (fun i _ => (intOf i).toNat)
  case atStart => exact ⟨cs.length, Nat.le_refl _, rfl, by simp, Blk.new _ _ _, belA _ _⟩
  case round =>
    obtain ⟨k, hk, rfl, hu, hx, hb⟩ := hrel
    have HU := Lib.hid hu
    have HX := Lib.hid hx
    have HB := Lib.hid hb
    obtain ⟨hc1, hf1, hz1⟩ := hx.facts
    clear hu hx hb
    cases k with
    | zero =>
      go_wp2_with fail
      first | rw [Exit.noGoto_ret] | skip
      go_ret
      exact ⟨by have := HU.out; simp [usedOf] at this; rw [← this]; rfl, HB.out⟩
    | succ k =>
      have hlt : k < cs.length := by omega
      obtain ⟨b1, o1, rfl, hz2, hr1⟩ := (HA.out.bel HB.out).at_ hlt
      have hc2 := elem_cell hr1 hlt
      clear hr1
      by_cases he : cs[k] = cEmp
      · have he' : decide (cs[k] = cEmp) = true := by simpa using he
        have HE := Lib.hid he
        have HS := Lib.hid (show usedOf (cs.take k) = usedOf cs by rw [← HU.out, usedOf_take hlt, if_pos he])
        clear he
        go_wp2_with fail
        refine (empty_any _ _).mono ?_
        rintro e w2 ⟨rfl, hb2⟩
        have HX2 := Lib.hid (HX.out.bel hb2)
        go_wp2_with fail
        go_roundw
        case rel => exact ⟨k, by omega, by go_num, HS.out, HX2.out, HB.out.trans (hb2.mono HB.out.size)⟩
        case measure => simp [intOf]
      · have he' : decide (cs[k] = cEmp) = false := by simpa using he
        have HS := Lib.hid (show usedOf cs = k + 1 by rw [← HU.out, usedOf_take hlt, if_neg he])
        clear he
        go_wp2_with fail
        refine (empty_any _ _).mono ?_
        rintro e w2 ⟨rfl, hb2⟩
        go_wp2_with fail
        first | rw [Exit.noGoto_ret] | skip
        go_ret
        exact ⟨by rw [HS.out]; rfl, HB.out.trans (hb2.mono HB.out.size)⟩
end Go.Proofs.YtmfhepjmmpnkaaaDoor
