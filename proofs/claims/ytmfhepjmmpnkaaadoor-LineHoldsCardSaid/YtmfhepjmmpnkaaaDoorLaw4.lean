/-
  The statements' own helpers of layer 4: of, mark, fixes, list.
-/
import Derived.Test.YtmfhepjmmpnkaaaDoorStain
import Derived.Test.YtmfhepjmmpnkaaaDoorText
import Derived.Test.YtmfhepjmmpnkaaaDoorRow2
set_option linter.unusedSimpArgs false
set_option linter.unusedVariables false
namespace Go.Proofs.YtmfhepjmmpnkaaaDoor
open Go.RowKit

def ofIs (r : Int) (p : Pen) (no : Int) (want : List Cell) : Bool := decide ((ofCells r p).1 = want) && decide ((ofCells r p).2 = no)
theorem ofCells_len (r : Int) (p : Pen) : (ofCells r p).1.length ≤ 2 := by
  unfold ofCells
  split
  · simp
  · split <;> simp

set_option maxHeartbeats 1000000 in
theorem l04of_any (r : Int) (p : Pen) (no : Int) (A : Option Addr) (c : Nat) (want : List Cell) (w : World) (ht : Tabs w) (ha : RdC w A c want) (hn : want.length ≤ 1000000) :
    Calls Tryd.prog 18 #[.int .i32 r, .agg (pv p), .int .i64 no, .slice A want.length c] w fun e w' => e = .returned (.bool (ofIs r p no want)) ∧ Below w.heap.size w w' := by
  have HT := Lib.hid (ht.bel ((Below.refl _ _).alloc (Nat.le_refl _) (.cells (pv p) 27)))
  have HA := Lib.hid ha
  have HL := Lib.hid (ofCells_len r p)
  clear ht ha
  have HD := Lib.hid (show ofIs r p no want = (decide ((ofCells r p).1 = want) && decide ((ofCells r p).2 = no)) from rfl)
  generalize hg : ofCells r p = q at HD HL
  have HG := Lib.hid hg
  clear hg
  obtain ⟨l, n⟩ := q
  by_cases h1 : l = want
  · have h1' : decide (l = want) = true := by simpa using h1
    have H1 := Lib.hid h1
    clear h1
    go_enter Tryd.func18, Tryd.ntmps18
    go_wp2_with fail
    refine (cellOf_any _ _ _ HT.out).mono ?_
    rw [HG.out]
    rintro e w1 ⟨v, rfl, ho, hb⟩
    obtain ⟨hk, hb1⟩ := box_call hb (by simp)
    obtain ⟨A1, c1, rfl, hr1⟩ := ho.form
    have HR := Lib.hid hr1
    clear hb hk ho hr1
    go_wp2_with fail
    refine (r04Same_any _ _ _ _ _ _ _ HR.out (HA.out.bel hb1) (by have h : l.length ≤ 2 := HL.out; omega) hn).mono ?_
    rintro e w2 ⟨rfl, hb2⟩
    go_wp2_with fail
    go_ret
    exact ⟨by rw [HD.out]; simp only [h1', Bool.true_and]; rfl, hb1.trans (hb2.mono hb1.size)⟩
  · have h1' : decide (l = want) = false := by simpa using h1
    have H1 := Lib.hid h1
    clear h1
    go_enter Tryd.func18, Tryd.ntmps18
    go_wp2_with fail
    refine (cellOf_any _ _ _ HT.out).mono ?_
    rw [HG.out]
    rintro e w1 ⟨v, rfl, ho, hb⟩
    obtain ⟨hk, hb1⟩ := box_call hb (by simp)
    obtain ⟨A1, c1, rfl, hr1⟩ := ho.form
    have HR := Lib.hid hr1
    clear hb hk ho hr1
    go_wp2_with fail
    refine (r04Same_any _ _ _ _ _ _ _ HR.out (HA.out.bel hb1) (by have h : l.length ≤ 2 := HL.out; omega) hn).mono ?_
    rintro e w2 ⟨rfl, hb2⟩
    go_wp2_with fail
    go_ret
    exact ⟨by rw [HD.out]; simp only [h1', Bool.false_and]; rfl, hb1.trans (hb2.mono hb1.size)⟩

def markIs (c : Cell) (r : Int) (want : Cell) (no : Int) : Bool := decide ((markOf c r).1 = want) && decide ((markOf c r).2 = no)
set_option maxHeartbeats 1000000 in
theorem l04mark_any (c : Cell) (r : Int) (want : Cell) (no : Int) (w : World) (ht : Tabs w) :
    Calls Tryd.prog 21 #[.agg (cv c), .int .i32 r, .agg (cv want), .int .i64 no] w fun e w' => e = .returned (.bool (markIs c r want no)) ∧ Below w.heap.size w w' := by
  have HT := Lib.hid (ht.bel (((Below.refl _ _).alloc (Nat.le_refl _) (.cells (cv c) 30)).alloc (by simp) (.cells (cv want) 30)))
  clear ht
  have HD := Lib.hid (show markIs c r want no = (decide ((markOf c r).1 = want) && decide ((markOf c r).2 = no)) from rfl)
  generalize hg : markOf c r = q at HD
  have HG := Lib.hid hg
  clear hg
  obtain ⟨l, n⟩ := q
  by_cases h1 : l = want
  · have h1' : decide (l = want) = true := by simpa using h1
    clear h1
    go_enter Tryd.func21, Tryd.ntmps21
    go_wp2_with fail
    refine (cellMark_any _ _ _ HT.out).mono ?_
    rintro e w1 ⟨he, hb⟩
    rw [HG.out] at he
    subst he
    obtain ⟨k0, k1, hb1⟩ := box_call2 hb (by simp)
    obtain ⟨hx1, hf1, hz1, hca1, hpa1⟩ := k1.box
    clear hb k0 k1
    go_wp2_with fail
    go_ret
    exact ⟨by rw [HD.out]; simp only [h1', Bool.true_and]; rfl, hb1.alloc hb1.size _⟩
  · have h1' : decide (l = want) = false := by simpa using h1
    clear h1
    go_enter Tryd.func21, Tryd.ntmps21
    go_wp2_with fail
    refine (cellMark_any _ _ _ HT.out).mono ?_
    rintro e w1 ⟨he, hb⟩
    rw [HG.out] at he
    subst he
    obtain ⟨k0, k1, hb1⟩ := box_call2 hb (by simp)
    obtain ⟨hx1, hf1, hz1, hca1, hpa1⟩ := k1.box
    clear hb k0 k1
    go_wp2_with fail
    go_ret
    exact ⟨by rw [HD.out]; simp only [h1', Bool.false_and]; rfl, hb1.alloc hb1.size _⟩

theorem l04fixes_any (A B : Option Addr) (c d : Nat) (l want : List Cell) (w : World) (ha : RdC w A c l) (hb : RdC w B d want) (hn : l.length ≤ 100000) (hm : want.length ≤ 100000) :
    Calls Tryd.prog 70 #[.slice A l.length c, .slice B want.length d] w fun e w' => e = .returned (.bool (decide (fixL l = want))) ∧ Below w.heap.size w w' := by
  have HA := Lib.hid ha
  have HB := Lib.hid hb
  clear ha hb
  go_enter Tryd.func70, Tryd.ntmps70
  go_wp2_with fail
  refine (cellFix_any _ _ _ _ HA.out hn).mono ?_
  rintro e w1 ⟨v, rfl, ho, hb1⟩
  obtain ⟨A1, c1, rfl, hr1⟩ := ho.form
  have HR := Lib.hid hr1
  clear ho hr1
  have hz := fixL_length l
  have HZ := Lib.hid hz
  clear hz
  go_wp2_with fail
  refine (r04Same_any _ _ _ _ _ _ _ HR.out (HB.out.bel hb1) (by rw [HZ.out]; omega) (by omega)).mono ?_
  rintro e w2 ⟨rfl, hb2⟩
  go_wp2_with fail
  go_ret
  exact ⟨rfl, hb1.trans (hb2.mono hb1.size)⟩
theorem l04list_any (A : Option Addr) (n c : Nat) (w : World) : Calls Tryd.prog 69 #[.slice A n c] w fun e w' => e = .returned (.slice A n c) ∧ w = w' := by
  go_enter Tryd.func69, Tryd.ntmps69
  go_wp2
  go_ret
  exact ⟨rfl, rfl⟩
end Go.Proofs.YtmfhepjmmpnkaaaDoor
