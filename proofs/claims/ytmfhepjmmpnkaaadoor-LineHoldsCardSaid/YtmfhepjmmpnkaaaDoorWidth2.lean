/-
  width.Of, and the reference's functions on widths.
-/
import Derived.Test.YtmfhepjmmpnkaaaDoorWidth
set_option linter.unusedSimpArgs false
set_option linter.unusedVariables false
namespace Go.Proofs.YtmfhepjmmpnkaaaDoor
open Go.RowKit

theorem unprinted_cases {r : Int} (h : unprinted r = true) : r < 32 ∨ (127 ≤ r ∧ r < 160) ∨ (55296 ≤ r ∧ r ≤ 57343) ∨ 1114111 < r := by
  simp only [unprinted, Bool.or_eq_true, Bool.and_eq_true, decide_eq_true_eq] at h; omega
theorem printed_cases {r : Int} (h : unprinted r = false) : (32 ≤ r ∧ r < 127) ∨ (160 ≤ r ∧ r < 55296) ∨ (57343 < r ∧ r ≤ 1114111) := by
  simp only [unprinted, Bool.or_eq_false_iff, Bool.and_eq_false_imp, decide_eq_false_iff_not, decide_eq_true_eq] at h; omega

set_option maxHeartbeats 1000000 in
theorem widthOf_any (r : Int) (w : World) (ht : Tabs w) : Calls Tryd.prog 72 #[.int .i32 r] w fun e w' => e = .returned (.int .i64 (wOf r)) ∧ Below w.heap.size w w' := by
  have HT := Lib.hid ht
  clear ht
  cases hu : unprinted r
  · have hr := printed_cases hu
    cases hm : inTab marksTab r
    · cases hw : inTab wideTab r
      · have H1 := Lib.hid (show wOf r = 1 by simp [wOf, hu, hm, hw])
        clear hu
        rcases hr with ⟨h1, h2⟩ | ⟨h1, h2⟩ | ⟨h1, h2⟩
        all_goals
          go_enter Tryd.func72, Tryd.ntmps72
          go_wp2_with fail
          refine (mark_call _ HT.out _).mono ?_
          rintro e w2 ⟨rfl, hb⟩
          rw [hm]
          go_wp2_with fail
          refine (wide_call _ (HT.out.bel hb) _).mono ?_
          rintro e w3 ⟨rfl, hb3⟩
          rw [hw]
          go_wp2_with fail
          go_ret
          exact ⟨by rw [H1.out]; rfl, hb.trans (hb3.mono hb.size)⟩
      · have H1 := Lib.hid (show wOf r = 2 by simp [wOf, hu, hm, hw])
        clear hu
        rcases hr with ⟨h1, h2⟩ | ⟨h1, h2⟩ | ⟨h1, h2⟩
        all_goals
          go_enter Tryd.func72, Tryd.ntmps72
          go_wp2_with fail
          refine (mark_call _ HT.out _).mono ?_
          rintro e w2 ⟨rfl, hb⟩
          rw [hm]
          go_wp2_with fail
          refine (wide_call _ (HT.out.bel hb) _).mono ?_
          rintro e w3 ⟨rfl, hb3⟩
          rw [hw]
          go_wp2_with fail
          go_ret
          exact ⟨by rw [H1.out]; rfl, hb.trans (hb3.mono hb.size)⟩
    · have H1 := Lib.hid (show wOf r = 0 by simp [wOf, hu, hm])
      clear hu
      rcases hr with ⟨h1, h2⟩ | ⟨h1, h2⟩ | ⟨h1, h2⟩
      all_goals
        go_enter Tryd.func72, Tryd.ntmps72
        go_wp2_with fail
        refine (mark_call _ HT.out _).mono ?_
        rintro e w2 ⟨rfl, hb⟩
        rw [hm]
        go_wp2_with fail
        go_ret
        exact ⟨by rw [H1.out]; rfl, hb⟩
  · have hr := unprinted_cases hu
    have H1 := Lib.hid (show wOf r = -1 by simp [wOf, hu])
    clear hu
    rcases hr with h1 | ⟨h1, h2⟩ | ⟨h1, h2⟩ | h1
    all_goals
      go_enter Tryd.func72, Tryd.ntmps72
      go_wp2_with fail
      go_ret
      exact ⟨by rw [H1.out]; rfl, Below.refl _ _⟩

set_option maxHeartbeats 1000000 in
theorem r02Printed_any (r : Int) (w : World) : Calls Tryd.prog 64 #[.int .i32 r] w fun e w' => e = .returned (.bool (!unprinted r)) ∧ Below w.heap.size w w' := by
  cases hu : unprinted r
  · have hr := printed_cases hu
    clear hu
    rcases hr with ⟨h1, h2⟩ | ⟨h1, h2⟩ | ⟨h1, h2⟩
    all_goals
      go_enter Tryd.func64, Tryd.ntmps64
      go_wp2_with fail
      go_ret
      exact ⟨by first | rfl | (simp; omega), Below.refl _ _⟩
  · have hr := unprinted_cases hu
    clear hu
    rcases hr with h1 | ⟨h1, h2⟩ | ⟨h1, h2⟩ | h1
    all_goals
      go_enter Tryd.func64, Tryd.ntmps64
      go_wp2_with fail
      go_ret
      exact ⟨by first | rfl | (simp; omega), Below.refl _ _⟩

theorem upto_succ {p : Nat → Prop} {a : Nat} (h : ∀ k, k < a → p k) (ha : p a) : ∀ k, k < a + 1 → p k := by
  intro k hk
  rcases Nat.lt_or_ge k a with h3 | h3
  · exact h k h3
  · obtain rfl : k = a := by omega
    exact ha

set_option maxHeartbeats 1000000 in
theorem r02in_any (b n c : Nat) (lo hi : Nat → Int) (r : Int) (is : Bool) (w : World) (hp : Pairs w b n lo hi) (hn : n ≤ 100)
    (his : is = true ↔ ∃ k, k < n ∧ lo k ≤ r ∧ r ≤ hi k) :
    Calls Tryd.prog 65 #[.slice (some ⟨b, 0, none⟩) n c, .int .i32 r] w fun e w' => e = .returned (.bool is) ∧ Below w.heap.size w w' := by
  have HP := Lib.hid hp
  have HI := Lib.hid his
  clear hp his
  go_enter Tryd.func65, Tryd.ntmps65
  go_wp2_with fail
  go_loop [5] (fun i => ∃ a : Nat, a ≤ n ∧ i = .int .i64 a ∧ (∀ k, k < a → ¬ (lo k ≤ r ∧ r ≤ hi k))) (fun i => n - (intOf i).toNat)
  case atStart => exact ⟨0, by omega, rfl, fun k hk => by omega⟩
  case round =>
    obtain ⟨a, han, rfl, hlt⟩ := hrel
    have HL := Lib.hid hlt
    clear hlt
    by_cases hc : a < n
    · obtain ⟨c0, c1⟩ := HP.out.2 a hc
      by_cases h1 : lo a ≤ r
      · by_cases h2 : r ≤ hi a
        · have HE : is = true := HI.out.2 ⟨a, hc, h1, h2⟩
          subst HE
          go_wp2_with fail
          go_ret
          exact ⟨rfl, Below.refl _ _⟩
        · go_wp2_with fail
          go_round
          case rel => exact ⟨a + 1, by omega, by go_num, upto_succ HL.out (by omega)⟩
          case measure => simp [intOf]; omega
      · go_wp2_with fail
        go_round
        case rel => exact ⟨a + 1, by omega, by go_num, upto_succ HL.out (by omega)⟩
        case measure => simp [intOf]; omega
    · have HE : is = false := by
        rw [Bool.eq_false_iff]
        intro h
        obtain ⟨k, hk, hh⟩ := HI.out.1 h
        exact HL.out k (by omega) hh
      subst HE
      go_wp2_with fail
      go_ret
      exact ⟨rfl, Below.refl _ _⟩

/-- A slice of pairs that the call made. -/
def Made (n : Nat) (lo hi : Nat → Int) (w : World) (e : Ending) (w' : World) : Prop := ∃ b, e = .returned (.slice (some ⟨b, 0, none⟩) n n) ∧ Pairs w' b n lo hi ∧ Below w.heap.size w w'
set_option maxHeartbeats 1000000 in
theorem r02Marks_any (w : World) : Calls Tryd.prog 66 #[] w (Made 18 (loOf marksTab) (hiOf marksTab) w) := by
  go_enter Tryd.func66, Tryd.ntmps66
  go_wp2_with fail
  go_ret
  refine ⟨w.heap.size, rfl, ⟨by simp, fun k hk => ?_⟩, (Below.refl _ _).alloc (Nat.le_refl _) _⟩
  simp only [World.cell?_alloc_new]
  have h : k = 0 ∨ k = 1 ∨ k = 2 ∨ k = 3 ∨ k = 4 ∨ k = 5 ∨ k = 6 ∨ k = 7 ∨ k = 8 ∨ k = 9 ∨ k = 10 ∨ k = 11 ∨ k = 12 ∨ k = 13 ∨ k = 14 ∨ k = 15 ∨ k = 16 ∨ k = 17 := by omega
  rcases h with rfl | rfl | rfl | rfl | rfl | rfl | rfl | rfl | rfl | rfl | rfl | rfl | rfl | rfl | rfl | rfl | rfl | rfl
  all_goals exact ⟨rfl, rfl⟩

set_option maxHeartbeats 1000000 in
theorem r02Wide_any (w : World) : Calls Tryd.prog 67 #[] w (Made 19 (loOf wideTab) (hiOf wideTab) w) := by
  go_enter Tryd.func67, Tryd.ntmps67
  go_wp2_with fail
  go_ret
  refine ⟨w.heap.size, rfl, ⟨by simp, fun k hk => ?_⟩, (Below.refl _ _).alloc (Nat.le_refl _) _⟩
  simp only [World.cell?_alloc_new]
  have h : k = 0 ∨ k = 1 ∨ k = 2 ∨ k = 3 ∨ k = 4 ∨ k = 5 ∨ k = 6 ∨ k = 7 ∨ k = 8 ∨ k = 9 ∨ k = 10 ∨ k = 11 ∨ k = 12 ∨ k = 13 ∨ k = 14 ∨ k = 15 ∨ k = 16 ∨ k = 17 ∨ k = 18 := by omega
  rcases h with rfl | rfl | rfl | rfl | rfl | rfl | rfl | rfl | rfl | rfl | rfl | rfl | rfl | rfl | rfl | rfl | rfl | rfl | rfl
  all_goals exact ⟨rfl, rfl⟩


set_option maxHeartbeats 1000000 in
theorem r02Of_any (r : Int) (w : World) : Calls Tryd.prog 16 #[.int .i32 r] w fun e w' => e = .returned (.int .i64 (wOf r)) ∧ Below w.heap.size w w' := by
  have HC := Lib.hid (r02Printed_any r w)
  cases hu : unprinted r
  · rw [hu] at HC
    go_enter Tryd.func16, Tryd.ntmps16
    go_wp2_with fail
    refine HC.out.mono ?_
    rintro e w1 ⟨rfl, hb1⟩
    go_wp2_with fail
    refine (r02Marks_any _).mono ?_
    rintro e w2 ⟨b, rfl, hp, hb2⟩
    have HP := Lib.hid hp
    clear hp
    go_wp2_with fail
    refine (r02in_any _ _ _ _ _ _ (inTab marksTab r) _ HP.out (by omega) (inTab_iff marksTab r)).mono ?_
    rintro e w3 ⟨rfl, hb3⟩
    have hb : Below w.heap.size w w3 := (hb1.trans (hb2.mono hb1.size)).trans (hb3.mono (by have := hb1.size; have := hb2.size; omega))
    cases hm : inTab marksTab r
    · go_wp2_with fail
      refine (r02Wide_any _).mono ?_
      rintro e w4 ⟨b4, rfl, hp, hb4⟩
      have HP4 := Lib.hid hp
      clear hp
      go_wp2_with fail
      refine (r02in_any _ _ _ _ _ _ (inTab wideTab r) _ HP4.out (by omega) (inTab_iff wideTab r)).mono ?_
      rintro e w5 ⟨rfl, hb5⟩
      cases hw : inTab wideTab r
      all_goals
        go_wp2_with fail
        go_ret
        exact ⟨by simp [wOf, hu, hm, hw], (hb.trans (hb4.mono hb.size)).trans (hb5.mono (by have := hb.size; have := hb4.size; omega))⟩
    · go_wp2_with fail
      go_ret
      exact ⟨by simp [wOf, hu, hm], hb⟩
  · rw [hu] at HC
    go_enter Tryd.func16, Tryd.ntmps16
    go_wp2_with fail
    refine HC.out.mono ?_
    rintro e w1 ⟨rfl, hb1⟩
    go_wp2_with fail
    go_ret
    exact ⟨by simp [wOf, hu], hb1⟩
end Go.Proofs.YtmfhepjmmpnkaaaDoor
