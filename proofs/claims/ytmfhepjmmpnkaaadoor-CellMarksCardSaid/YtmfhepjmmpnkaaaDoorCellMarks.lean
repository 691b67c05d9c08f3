/-
  CellMarks: the walk; slices of runes that came in.
-/
import Derived.Test.YtmfhepjmmpnkaaaDoorKnown4
import Derived.Test.YtmfhepjmmpnkaaaDoorLift
set_option linter.unusedSimpArgs false
set_option linter.unusedVariables false
namespace Go.Proofs.YtmfhepjmmpnkaaaDoor
open Go.RowKit

/-- The slice at A reads as these runes. -/
def RdI (w : World) (A : Option Addr) (c : Nat) (l : List Int) : Prop := l.length ≤ c ∧ (0 < l.length → ∃ b off, A = some ⟨b, off, none⟩ ∧ b < w.heap.size ∧ w.rangeAt b off (l.map (.int .i32)))
section
variable {w w' : World} {A : Option Addr} {c : Nat} {l : List Int}
theorem RdI.bel (h : RdI w A c l) (hb : Below w.heap.size w w') : RdI w' A c l := ⟨h.1, fun hn => by
  obtain ⟨b, off, e, hz, hr⟩ := h.2 hn
  exact ⟨b, off, e, by have := hb.size; omega, (rangeAt_same (fun i => hb.cell (p := ⟨b, i, none⟩) hz)).2 hr⟩⟩
theorem RdI.at_ (h : RdI w A c l) {k : Nat} (hk : k < l.length) : ∃ b off, A = some ⟨b, off, none⟩ ∧ b < w.heap.size ∧ w.cell? ⟨b, off + k, none⟩ = some (.int .i32 l[k]) := by
  obtain ⟨b, off, e, hz, hr⟩ := h.2 (by omega)
  exact ⟨b, off, e, hz, hr k _ (by simp [hk])⟩
end
section
open Go.ChangeShapes Go.WideShapes Go.Deep
variable {H : Type} {enc : TypeId × Value → H}
set_option maxRecDepth 100000 in
theorem open_i32s {v : Value} {w : World} {r : Reach} {b0 : Nat} {hd : Bool} {d : DataW H} {p : List MemPlace} (hv : Value.okWide Tryd.prog w r b0 38 v) (h : DataW.Trod enc Tryd.prog w 0 (fun _ => true) hd 38 v d p) : ∃ A c l, v = .slice A l.length c ∧ RdI w A c l ∧ c ≤ maxLen := by
  obtain ⟨a0, n0, c0, rfl⟩ := okWide_slice Tryd.underlying38 hv
  obtain ⟨fuel, hf⟩ := h
  rcases open_slice Tryd.underlying38 hf with ⟨he, _⟩ | ⟨a, len, cap, m, n, D, Pl, he, _, hl, hm, hmm, _, hi⟩
  · exact ⟨none, 0, [], by simpa [Value.cells] using he, ⟨by simp, fun h => by simp at h⟩, by simp [maxLen]⟩
  · simp only [if_true] at hmm
    subst hmm
    rw [cells_i32] at hi
    have hall : ∀ i, i < len → ∃ x : Int, w.cell? (a.add i) = some (.int .i32 x) := by
      intro i hlt
      obtain ⟨cs', hc, ht⟩ := hi i (by omega)
      obtain ⟨_, hcl, hat⟩ := World.cells?_some hc
      obtain ⟨x, rfl, _⟩ := DataW.trod_int Tryd.underlying21 ht
      have := hat 0 (by omega)
      simp only [Nat.mul_one, Addr.add_zero'] at this
      exact ⟨x, this⟩
    have hl2 : ∃ l : List Int, l.length = len ∧ ∀ i (h : i < l.length), w.cell? (a.add i) = some (.int .i32 l[i]) := by
      refine ⟨(List.range len).map fun i => if h : i < len then (hall i h).choose else 0, by simp, fun i h => ?_⟩
      have hlt : i < len := by simpa using h
      simp only [List.getElem_map, List.getElem_range, hlt, dif_pos]
      exact (hall i hlt).choose_spec
    obtain ⟨l, rfl, hcell⟩ := hl2
    refine ⟨some a, m, l, by simpa [Value.cells] using he, ⟨hl, fun hn => ?_⟩, hm⟩
    have h00 := hcell 0 hn
    simp only [Addr.add_zero'] at h00
    obtain ⟨b, off, spot⟩ := a
    have hspot : spot = none := by
      cases spot with
      | none => rfl
      | some q => simp [World.cell?] at h00; split at h00 <;> simp at h00
    subst hspot
    refine ⟨b, off, rfl, block_lt_of_cell h00, fun j v hv => ?_⟩
    have hj : j < l.length := by have := (List.getElem?_eq_some_iff.1 hv).1; simpa using this
    have := hcell j hj
    rw [add_at] at this
    rw [this, ← hv]
    simp [hj]
end

theorem markIs_self (c : Cell) (r : Int) : markIs c r (markOf c r).1 (markOf c r).2 = true := by simp [markIs]
set_option maxRecDepth 100000 in
set_option maxHeartbeats 4000000 in
theorem l04CellMarks_any (c : Cell) (A : Option Addr) (cap : Nat) (l : List Int) (w : World) (ht : Tabs w) (ha : RdI w A cap l) (hm : cap ≤ maxLen) : Calls Tryd.prog 4 #[.agg (cv c), .slice A l.length cap] w fun e w' => e = .returned (.bool true) ∧ Below w.heap.size w w' := by
  have HT := Lib.hid ht
  have HA := Lib.hid ha
  have hlen : l.length ≤ 9223372036854775807 := by have := ha.1; unfold maxLen at hm; omega
  clear ht ha
  by_cases h8 : 8 < l.length
  · go_enter Tryd.func4, Tryd.ntmps4
    go_wp2_with fail
    refine (l04known_any _ (HT.out.bel ((Below.refl _ _).alloc (Nat.le_refl _) _))).mono ?_
    rintro e w1 ⟨rfl, hb⟩
    go_wp2_with fail
    go_ret
    exact ⟨rfl, below_one hb⟩
  go_enter Tryd.func4, Tryd.ntmps4
  go_wp2_with fail
  go_loopw [15] (fun i wr => ∃ k : Nat, k ≤ l.length ∧ i = .int .i64 k ∧ (∃ d : Cell, Blk wr w.heap.size 30 (cv d)) ∧ Below w.heap.size w wr) (fun i _ => l.length - (intOf i).toNat)
  case atStart => exact ⟨0, by omega, rfl, ⟨c, Blk.new _ _ _⟩, (Below.refl _ _).alloc (Nat.le_refl _) _⟩
  case round =>
    obtain ⟨k, hk, rfl, ⟨d, hx⟩, hb⟩ := hrel
    have HX := Lib.hid hx
    have HB := Lib.hid hb
    clear hx hb
    by_cases hlt : k < l.length
    · obtain ⟨b1, o1, rfl, hz1, hc1⟩ := (HA.out.bel HB.out).at_ hlt
      obtain ⟨hx1, hf1, hg1, hca1, hpa1⟩ := HX.out.box
      go_wp2_with fail
      refine (r04Mark_any _ _ _).mono ?_
      rintro e w2 ⟨rfl, hb2⟩
      have HX2 := Lib.hid (HX.out.bel hb2)
      have HB2 := Lib.hid (HB.out.trans (hb2.mono HB.out.size))
      have HM := Lib.hid (markIs_self d l[k])
      clear hb2 hc1 hz1 hx1 hf1 hg1 hca1 hpa1
      generalize hn : markOf d l[k] = q at *
      obtain ⟨nx, no⟩ := q
      have HN := Lib.hid hn
      clear hn
      obtain ⟨hx1, hf1, hg1, hca1, hpa1⟩ := HX2.out.box
      go_wp2_with fail
      refine (mark_yes HM.out _ ((HT.out.bel HB2.out).bel ((Below.refl _ _).alloc (Nat.le_refl _) _))).mono ?_
      rintro e w3 ⟨rfl, hb3⟩
      obtain ⟨hk7, hb3'⟩ := box_call hb3 (by simp)
      have HX3 := Lib.hid (HX2.out.bel hb3')
      have HB3 := Lib.hid (HB2.out.trans (hb3'.mono HB2.out.size))
      obtain ⟨hx7, hf7, hg7, hca7, hpa7⟩ := hk7.box
      clear hb3 hb3' hk7 hx1 hf1 hg1 hca1 hpa1
      by_cases h0 : no = 0
      · have h0' := beq_yes h0
        clear h0
        have hst := HX3.out.put
        have hz3 := HX3.out.lt
        go_wp2_with fail
        go_roundw
        case rel => exact ⟨k + 1, by omega, by go_num, ⟨nx, HX3.out.row _⟩, below_row HB3.out (Nat.le_refl _) _⟩
        case measure => simp [intOf]; omega
      · have h0' := beq_no h0
        clear h0
        go_wp2_with fail
        go_roundw
        case rel => exact ⟨k + 1, by omega, by go_num, ⟨d, HX3.out⟩, HB3.out⟩
        case measure => simp [intOf]; omega
    · go_wp2_with fail
      refine (l04known_any _ (HT.out.bel HB.out)).mono ?_
      rintro e w1 ⟨rfl, hb⟩
      go_wp2_with fail
      go_ret
      exact ⟨rfl, HB.out.trans (hb.mono HB.out.size)⟩
end Go.Proofs.YtmfhepjmmpnkaaaDoor
