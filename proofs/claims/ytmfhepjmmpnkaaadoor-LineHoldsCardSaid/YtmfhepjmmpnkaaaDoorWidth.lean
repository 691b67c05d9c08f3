/-
  Contracts of the functions on widths: width.Of with its tables, and the reference's.
-/
import Derived.Test.YtmfhepjmmpnkaaaDoorChecked
import Derived.Test.YtmfhepjmmpnkaaaDoorBase
set_option linter.unusedSimpArgs false
set_option linter.unusedVariables false
namespace Go.Proofs.YtmfhepjmmpnkaaaDoor
open Go.RowKit

def cmpOf (lo hi r : Int) : Int := if hi < r then -1 else if r < lo then 1 else 0

set_option maxHeartbeats 400000 in
theorem widthCmp_any (lo hi r : Int) (w : World) : Calls Tryd.prog 90 #[.agg #[.int .i32 lo, .int .i32 hi], .int .i32 r] w fun e w' => e = .returned (.int .i64 (cmpOf lo hi r)) ∧ Below w.heap.size w w' := by
  by_cases h1 : hi < r
  · go_enter Tryd.func90, Tryd.ntmps90
    go_wp2
    go_ret
    exact ⟨by simp [cmpOf, h1], (Below.refl _ _).alloc (Nat.le_refl _) _⟩
  · by_cases h2 : r < lo
    · go_enter Tryd.func90, Tryd.ntmps90
      go_wp2
      go_ret
      exact ⟨by simp [cmpOf, h1, h2], (Below.refl _ _).alloc (Nat.le_refl _) _⟩
    · go_enter Tryd.func90, Tryd.ntmps90
      go_wp2
      go_ret
      exact ⟨by simp [cmpOf, Int.not_lt.2 h1, Int.not_lt.2 h2], (Below.refl _ _).alloc (Nat.le_refl _) _⟩

/-- Block b holds n pairs. -/
def Pairs (w : World) (b n : Nat) (lo hi : Nat → Int) : Prop :=
  b < w.heap.size ∧ ∀ k, k < n → w.cell? ⟨b, k * 2, none⟩ = some (.int .i32 (lo k)) ∧ w.cell? ⟨b, k * 2 + 1, none⟩ = some (.int .i32 (hi k))
theorem Pairs.below {w w' : World} {b n B : Nat} {lo hi : Nat → Int} (h : Pairs w b n lo hi) (hb : Below B w w') (hB : b < B) : Pairs w' b n lo hi :=
  ⟨by have := h.1; have := hb.size; omega, fun k hk => ⟨(hb.cell (p := ⟨b, _, none⟩) hB).trans (h.2 k hk).1, (hb.cell (p := ⟨b, _, none⟩) hB).trans (h.2 k hk).2⟩⟩

def Found (n : Nat) (lo hi : Nat → Int) (r : Int) (e : Ending) : Prop :=
  ∃ (i : Nat) (is : Bool), e = .returned (.tuple #[.int .i64 i, .bool is]) ∧ (is = true ↔ ∃ k, k < n ∧ lo k ≤ r ∧ r ≤ hi k)

theorem widthCmp_lt (lo : Int) {hi r : Int} (h : hi < r) (w : World) : Calls Tryd.prog 90 #[.agg #[.int .i32 lo, .int .i32 hi], .int .i32 r] w fun e w' => e = .returned (.int .i64 (-1)) ∧ Below w.heap.size w w' :=
  (show cmpOf lo hi r = -1 by simp [cmpOf, h]) ▸ widthCmp_any lo hi r w
theorem widthCmp_gt {lo hi r : Int} (h : r ≤ hi) (h2 : r < lo) (w : World) : Calls Tryd.prog 90 #[.agg #[.int .i32 lo, .int .i32 hi], .int .i32 r] w fun e w' => e = .returned (.int .i64 1) ∧ Below w.heap.size w w' :=
  (show cmpOf lo hi r = 1 by simp [cmpOf, Int.not_lt.2 h, h2]) ▸ widthCmp_any lo hi r w
theorem widthCmp_eq {lo hi r : Int} (h : r ≤ hi) (h2 : lo ≤ r) (w : World) : Calls Tryd.prog 90 #[.agg #[.int .i32 lo, .int .i32 hi], .int .i32 r] w fun e w' => e = .returned (.int .i64 0) ∧ Below w.heap.size w w' :=
  (show cmpOf lo hi r = 0 by simp [cmpOf, Int.not_lt.2 h, Int.not_lt.2 h2]) ▸ widthCmp_any lo hi r w
theorem widthCmp_ge (lo : Int) {hi r : Int} (h : r ≤ hi) (w : World) : Calls Tryd.prog 90 #[.agg #[.int .i32 lo, .int .i32 hi], .int .i32 r] w fun e w' => ∃ x : Int, 0 ≤ x ∧ e = .returned (.int .i64 x) ∧ Below w.heap.size w w' :=
  (widthCmp_any lo hi r w).mono fun e w' ⟨he, hb⟩ => ⟨_, by unfold cmpOf; rw [if_neg (Int.not_lt.2 h)]; split <;> omega, he, hb⟩

section
variable {n : Nat} {lo hi : Nat → Int} {r : Int}
theorem below_mid {m k : Nat} (hs : ∀ k, k < n → lo k ≤ hi k) (hs2 : ∀ k m, k < m → m < n → hi k < lo m) (hm : m < n) (hk : k < m + 1) (h : hi m < r) : hi k < r := by
  rcases Nat.lt_or_ge k m with h1 | h1
  · have := hs2 k m h1 hm; have := hs m hm; omega
  · obtain rfl : k = m := by omega
    exact h
theorem above_mid {m k : Nat} (hs : ∀ k, k < n → lo k ≤ hi k) (hs2 : ∀ k m, k < m → m < n → hi k < lo m) (hm : m ≤ k) (hk : k < n) (h : r ≤ hi m) : r ≤ hi k := by
  rcases Nat.lt_or_ge m k with h1 | h1
  · have := hs2 m k h1 hk; have := hs k hk; omega
  · obtain rfl : k = m := by omega
    exact h
theorem not_found {a k : Nat} (hl : ∀ k, k < a → hi k < r) (hs2 : ∀ k m, k < m → m < n → hi k < lo m) (h3 : r < lo a) (hr : r ≤ hi a) (hk : k < n) (h4 : lo k ≤ r) : hi k < r := by
  rcases Nat.lt_trichotomy k a with h1 | h1 | h1
  · exact hl k h1
  · subst h1; omega
  · have := hs2 a k h1 hk; omega
end

set_option maxHeartbeats 1000000 in
theorem search_any (b n c : Nat) (lo hi : Nat → Int) (r : Int) (w : World) (hp : Pairs w b n lo hi) (hn : n ≤ 100) (hs : ∀ k, k < n → lo k ≤ hi k) (hs2 : ∀ k m, k < m → m < n → hi k < lo m) :
    Calls Tryd.prog 89 #[.slice (some ⟨b, 0, none⟩) n c, .int .i32 r, .func (.func 90) #[] #[]] w fun e w' => Found n lo hi r e ∧ Below w.heap.size w w' := by
  have HP := Lib.hid hp
  have HS := Lib.hid hs
  have HS2 := Lib.hid hs2
  clear hp hs hs2
  go_enter Tryd.func89, Tryd.ntmps89
  go_wp2_with fail
  go_loopw [9, 10, 11] (fun i j h wr => ∃ a d : Nat, a ≤ d ∧ d ≤ n ∧ i = .int .i64 a ∧ j = .int .i64 d ∧ (∀ k, k < a → hi k < r) ∧ (∀ k, d ≤ k → k < n → r ≤ hi k) ∧ Below w.heap.size w wr) (fun i j _ _ => (intOf j - intOf i).toNat)
  case atStart => exact ⟨0, n, by omega, by omega, rfl, rfl, fun k hk => by omega, fun k h1 h2 => by omega, Below.refl _ _⟩
  case round =>
    obtain ⟨a, d, had, hdn, rfl, rfl, hlt, hge, hb⟩ := hrel
    have HL := Lib.hid hlt
    have HG := Lib.hid hge
    have HB := Lib.hid hb
    clear hlt hge hb
    by_cases hc : a < d
    · obtain ⟨c0, c1⟩ := (HP.out.below HB.out HP.out.1).2 ((a + d) / 2) (by omega)
      by_cases h1 : hi ((a + d) / 2) < r
      · have HC := Lib.hid (widthCmp_lt (lo ((a + d) / 2)) h1)
        go_wp2_with fail
        refine (HC.out _).mono ?_
        rintro e w2 ⟨rfl, hb2⟩
        go_wp2_with fail
        go_roundw
        case rel => exact ⟨(a + d) / 2 + 1, d, by omega, by omega, by go_num, rfl, fun k hk => below_mid HS.out HS2.out (by omega) hk h1, HG.out, HB.out.trans (hb2.mono HB.out.size)⟩
        case measure => simp [intOf]; omega
      · have HC := Lib.hid (widthCmp_ge (lo ((a + d) / 2)) (Int.not_lt.1 h1))
        go_wp2_with fail
        refine (HC.out _).mono ?_
        rintro e w2 ⟨x, hx0, rfl, hb2⟩
        go_wp2_with fail
        go_roundw
        case rel => exact ⟨a, (a + d) / 2, by omega, by omega, rfl, by go_num, HL.out, fun k hk hk2 => above_mid HS.out HS2.out hk hk2 (by omega), HB.out.trans (hb2.mono HB.out.size)⟩
        case measure => simp [intOf]; omega
    · obtain rfl : a = d := by omega
      by_cases h2 : a < n
      · obtain ⟨c0, c1⟩ := (HP.out.below HB.out HP.out.1).2 a h2
        have hr := HG.out a (Nat.le_refl _) h2
        by_cases h3 : r < lo a
        · have HC := Lib.hid (widthCmp_gt hr h3)
          go_wp2_with fail
          refine (HC.out _).mono ?_
          rintro e w2 ⟨rfl, hb2⟩
          go_wp2_with fail
          go_ret2
          refine ⟨⟨a, false, rfl, by simp; exact fun k hk h4 => not_found HL.out HS2.out h3 hr hk h4⟩, HB.out.trans (hb2.mono HB.out.size)⟩
        · have HC := Lib.hid (widthCmp_eq hr (Int.not_lt.1 h3))
          go_wp2_with fail
          refine (HC.out _).mono ?_
          rintro e w2 ⟨rfl, hb2⟩
          go_wp2_with fail
          go_ret2
          refine ⟨⟨a, true, rfl, by simp; exact ⟨a, h2, by omega, hr⟩⟩, HB.out.trans (hb2.mono HB.out.size)⟩
      · go_wp2_with fail
        go_ret2
        refine ⟨⟨a, false, rfl, by simp; exact fun k hk h4 => HL.out k (by omega)⟩, HB.out⟩

def marksTab : List (Int × Int) := [(768, 879), (1155, 1161), (1425, 1469), (1552, 1562), (1611, 1631), (1750, 1756), (3633, 3633), (3636, 3642), (3655, 3662), (6832, 6911), (7616, 7679), (8203, 8207), (8400, 8447), (12330, 12335), (12441, 12442), (65024, 65039), (65056, 65071), (917760, 917999)]
def wideTab : List (Int × Int) := [(4352, 4447), (9001, 9002), (11904, 12329), (12336, 12350), (12353, 12440), (12443, 13311), (13312, 19903), (19968, 42191), (43360, 43391), (44032, 55203), (63744, 64255), (65072, 65135), (65280, 65376), (65504, 65510), (127744, 128591), (128640, 128767), (129280, 129535), (131072, 196605), (196608, 262141)]
def loOf (tab : List (Int × Int)) (k : Nat) : Int := (tab.getD k (0, 0)).1
def hiOf (tab : List (Int × Int)) (k : Nat) : Int := (tab.getD k (0, 0)).2
def inTab (tab : List (Int × Int)) (r : Int) : Bool := tab.any fun x => decide (x.1 ≤ r) && decide (r ≤ x.2)
theorem inTab_iff (tab : List (Int × Int)) (r : Int) : inTab tab r = true ↔ ∃ k, k < tab.length ∧ loOf tab k ≤ r ∧ r ≤ hiOf tab k := by
  simp only [inTab, List.any_eq_true, Bool.and_eq_true, decide_eq_true_eq, loOf, hiOf]
  constructor
  · rintro ⟨x, hx, h1, h2⟩
    obtain ⟨k, hk, rfl⟩ := List.getElem_of_mem hx
    exact ⟨k, hk, by simpa [List.getD_eq_getElem?_getD, hk] using h1, by simpa [List.getD_eq_getElem?_getD, hk] using h2⟩
  · rintro ⟨k, hk, h1, h2⟩
    exact ⟨tab[k], List.getElem_mem hk, by simpa [List.getD_eq_getElem?_getD, hk] using h1, by simpa [List.getD_eq_getElem?_getD, hk] using h2⟩
theorem marks_len : marksTab.length = 18 := rfl
theorem wide_len : wideTab.length = 19 := rfl
theorem marks_s : ∀ k, k < 18 → loOf marksTab k ≤ hiOf marksTab k := by decide
theorem wide_s : ∀ k, k < 19 → loOf wideTab k ≤ hiOf wideTab k := by decide
theorem marks_s1 : ∀ k, k < 17 → hiOf marksTab k < loOf marksTab (k + 1) := by decide
theorem wide_s1 : ∀ k, k < 18 → hiOf wideTab k < loOf wideTab (k + 1) := by decide
theorem sorted_of {n : Nat} {lo hi : Nat → Int} (h1 : ∀ k, k < n + 1 → lo k ≤ hi k) (h2 : ∀ k, k < n → hi k < lo (k + 1)) : ∀ k m, k < m → m < n + 1 → hi k < lo m := by
  intro k m
  induction m with
  | zero => intro h; omega
  | succ m ih =>
    intro h hm
    rcases Nat.lt_or_ge k m with h3 | h3
    · have := ih h3 (by omega); have := h1 m (by omega); have := h2 m (by omega); omega
    · obtain rfl : k = m := by omega
      exact h2 k (by omega)
def unprinted (r : Int) : Bool := decide (r < 32) || (decide (127 ≤ r) && decide (r < 160)) || (decide (55296 ≤ r) && decide (r ≤ 57343)) || decide (1114111 < r)
def wOf (r : Int) : Int := if unprinted r = true then -1 else if inTab marksTab r = true then 0 else if inTab wideTab r = true then 2 else 1

/-- The program's two tables lie in their blocks. -/
def Tabs (w : World) : Prop := Pairs w 0 18 (loOf marksTab) (hiOf marksTab) ∧ Pairs w 1 19 (loOf wideTab) (hiOf wideTab)
theorem Tabs.size {w : World} (h : Tabs w) : 2 ≤ w.heap.size := h.2.1
theorem Tabs.below {w w' : World} {B : Nat} (h : Tabs w) (hb : Below B w w') (hB : 2 ≤ B) : Tabs w' := ⟨h.1.below hb (by omega), h.2.below hb (by omega)⟩
theorem Tabs.bel {w w' : World} (h : Tabs w) (hb : Below w.heap.size w w') : Tabs w' := h.below hb h.size

set_option maxHeartbeats 400000 in
theorem widthin_any (b n c : Nat) (lo hi : Nat → Int) (r : Int) (is : Bool) (w : World) (hp : Pairs w b n lo hi) (hn : n ≤ 100) (hs : ∀ k, k < n → lo k ≤ hi k) (hs2 : ∀ k m, k < m → m < n → hi k < lo m)
    (his : is = true ↔ ∃ k, k < n ∧ lo k ≤ r ∧ r ≤ hi k) :
    Calls Tryd.prog 84 #[.slice (some ⟨b, 0, none⟩) n c, .int .i32 r] w fun e w' => e = .returned (.bool is) ∧ Below w.heap.size w w' := by
  have HC := Lib.hid (search_any b n c lo hi r w hp hn hs hs2)
  have HI := Lib.hid his
  clear hp hs hs2 his
  go_enter Tryd.func84, Tryd.ntmps84
  go_wp2_with fail
  refine HC.out.mono ?_
  rintro e w2 ⟨⟨i, is', rfl, h⟩, hb⟩
  have HE : is' = is := by rw [Bool.eq_iff_iff]; exact h.trans HI.out.symm
  subst HE
  clear h HI
  go_wp2_with fail
  go_ret
  exact ⟨rfl, hb⟩
theorem mark_call {r : Int} (w : World) (ht : Tabs w) (c : Nat) : Calls Tryd.prog 84 #[.slice (some ⟨0, 0, none⟩) 18 c, .int .i32 r] w fun e w' => e = .returned (.bool (inTab marksTab r)) ∧ Below w.heap.size w w' :=
  widthin_any _ _ _ _ _ _ _ w ht.1 (by omega) marks_s (sorted_of marks_s marks_s1) (inTab_iff marksTab r)
theorem wide_call {r : Int} (w : World) (ht : Tabs w) (c : Nat) : Calls Tryd.prog 84 #[.slice (some ⟨1, 0, none⟩) 19 c, .int .i32 r] w fun e w' => e = .returned (.bool (inTab wideTab r)) ∧ Below w.heap.size w w' :=
  widthin_any _ _ _ _ _ _ _ w ht.2 (by omega) wide_s (sorted_of wide_s wide_s1) (inTab_iff wideTab r)

end Go.Proofs.YtmfhepjmmpnkaaaDoor
