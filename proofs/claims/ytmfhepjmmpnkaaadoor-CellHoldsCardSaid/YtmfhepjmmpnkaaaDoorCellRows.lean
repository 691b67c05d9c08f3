/-
  CellRows: the walk.
-/
import Derived.Test.YtmfhepjmmpnkaaaDoorKnown4
set_option linter.unusedSimpArgs false
set_option linter.unusedVariables false
namespace Go.Proofs.YtmfhepjmmpnkaaaDoor
open Go.RowKit

theorem OwnC.fromB {w : World} {B n c : Nat} {A : Option Addr} {cs : List Cell} (h : OwnC w B (.slice A n c) cs) : ∀ k, A.map (·.block) = some k → B ≤ k := fun k hk => (World.ownsRow.lt h k (by cases A with | none => cases hk | some a => exact hk)).1

set_option maxRecDepth 100000 in
set_option maxHeartbeats 4000000 in
theorem l04CellRows_any (A : Option Addr) (c : Nat) (l : List Cell) (w : World) (ht : Tabs w) (ha : RdC w A c l) (hm : c ≤ maxLen) : Calls Tryd.prog 5 #[.slice A l.length c] w fun e w' => e = .returned (.bool true) ∧ Below w.heap.size w w' := by
  have HT := Lib.hid ht
  have HA := Lib.hid ha
  have hlen : l.length ≤ 9223372036854775807 := by have := ha.1; unfold maxLen at hm; omega
  clear ht ha
  by_cases h8 : 40 < l.length
  · go_enter Tryd.func5, Tryd.ntmps5
    go_wp2_with fail
    refine (l04known_any _ HT.out).mono ?_
    rintro e w1 ⟨rfl, hb⟩
    go_wp2_with fail
    go_ret
    exact ⟨rfl, hb⟩
  go_enter Tryd.func5, Tryd.ntmps5
  go_wp2_with (at_builtin; (refine wpList_appC rfl _ _ rfl w.heap.size (.slice none 0 0) [] rfl (OwnC.nil w _) A c l rfl HA.out (by simp; omega) (Nat.le_refl _) ?_); intro v1 w1 hown1 hg1 hat1; rw [List.nil_append] at hown1; obtain ⟨A1, c1, rfl, hrd1⟩ := hown1.form; have HR := Lib.hid hrd1; have HB := Lib.hid ((Below.refl _ _).grown hg1 (Nat.le_refl _) (by simp [Value.ownBlock])); clear hown1 hg1 hat1 hrd1)
  refine (cellRow_any _ _ _ _ (HT.out.bel HB.out) HR.out (by omega)).mono ?_
  rintro e w2 ⟨rfl, hb2⟩
  have HR2 := Lib.hid (HR.out.bel hb2)
  have HB2 := Lib.hid (HB.out.trans (hb2.mono HB.out.size))
  clear hb2
  go_wp2_with fail
  refine (r04Row_any _ _ _ _ (HA.out.bel HB2.out) (by omega)).mono ?_
  rintro e w3 ⟨rfl, hb3⟩
  have HR3 := Lib.hid (HR2.out.bel hb3)
  have HB3 := Lib.hid (HB2.out.trans (hb3.mono HB2.out.size))
  clear hb3
  go_wp2_with fail
  refine (cellTexts_any _ _ _ _ HR3.out (by omega)).mono ?_
  rintro e w4 ⟨rfl, hb4⟩
  have HR4 := Lib.hid (HR3.out.bel hb4)
  have HB4 := Lib.hid (HB3.out.trans (hb4.mono HB3.out.size))
  clear hb4
  go_wp2_with fail
  refine (r04Texts_any _ _ _ _ (HA.out.bel HB4.out) (by omega)).mono ?_
  rintro e w5 ⟨rfl, hb5⟩
  have HR5 := Lib.hid (HR4.out.bel hb5)
  have HB5 := Lib.hid (HB4.out.trans (hb5.mono HB4.out.size))
  clear hb5
  go_wp2_with fail
  refine (cellFix_any _ _ _ _ HR5.out (by omega)).mono ?_
  rintro e w6 ⟨v6, rfl, ho6, hb6⟩
  obtain ⟨A2, c2, rfl, hr6⟩ := ho6.form
  have HX6 := Lib.hid ho6
  have HC6 := Lib.hid hb6
  have HB6 := Lib.hid (HB5.out.trans (hb6.mono HB5.out.size))
  have hz := fixL_length l
  have HZ := Lib.hid hz
  clear hb6 hr6 ho6 hz
  go_wp2_with fail
  refine (r04Fix_any _ _ _ _ (HA.out.bel HB6.out) (by omega)).mono ?_
  rintro e w7 ⟨v7, rfl, ho7, hb7⟩
  obtain ⟨A3, c3, rfl, hr7⟩ := ho7.form
  have HX7 := Lib.hid (HX6.out.bel hb7)
  have HY7 := Lib.hid hr7
  have HC7 := Lib.hid (HC6.out.trans (hb7.mono HC6.out.size))
  have HB7 := Lib.hid (HB6.out.trans (hb7.mono HB6.out.size))
  have hrx := HX7.out.form
  obtain ⟨_, _, hve, hrx7⟩ := hrx
  have HRX := Lib.hid hrx7
  injection hve with e1 _ e2
  subst e1
  subst e2
  clear hb7 hr7 ho7 hrx7
  go_wp2_with fail
  refine (r04Same_any _ _ _ _ _ _ _ HRX.out HY7.out (by rw [HZ.out]; omega) (by rw [HZ.out]; omega)).mono ?_
  rintro e w8 ⟨rfl, hb8⟩
  have HX8 := Lib.hid (HX7.out.bel hb8)
  have HC8 := Lib.hid (HC7.out.trans (hb8.mono HC7.out.size))
  have HB8 := Lib.hid (HB7.out.trans (hb8.mono HB7.out.size))
  clear hb8
  go_wp2_with fail
  refine (r04Stain_any _ _ _ _ _ HX8.out (by rw [HZ.out]; omega)).mono ?_
  rintro e w9 ⟨rfl, hg9⟩
  have HC9 := Lib.hid (HC8.out.grown hg9 HC8.out.size HX8.out.fromB)
  have HB9 := Lib.hid (HB8.out.grown hg9 HB8.out.size (fun k hk => by have := HX8.out.fromB k hk; have := HB5.out.size; omega))
  clear hg9
  have HR9 := Lib.hid (HR5.out.bel HC9.out)
  go_wp2_with fail
  refine (r04Same_any _ _ _ _ _ _ _ HR9.out (HA.out.bel HB9.out) (by omega) (by omega)).mono ?_
  rintro e w10 ⟨rfl, hb10⟩
  have HB10 := Lib.hid (HB9.out.trans (hb10.mono HB9.out.size))
  clear hb10
  go_wp2_with fail
  refine (l04known_any _ (HT.out.bel HB10.out)).mono ?_
  rintro e w11 ⟨rfl, hb11⟩
  go_wp2_with fail
  go_ret
  exact ⟨rfl, HB10.out.trans (hb11.mono HB10.out.size)⟩
end Go.Proofs.YtmfhepjmmpnkaaaDoor
