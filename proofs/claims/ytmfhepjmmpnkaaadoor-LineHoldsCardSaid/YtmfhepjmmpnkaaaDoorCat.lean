/-
  slices.Grow of nil, slices.Concat of three slices of cells.
-/
import Derived.Test.YtmfhepjmmpnkaaaDoorLine6
import Derived.Lib.AppendZeros
set_option linter.unusedSimpArgs false
set_option linter.unusedVariables false
namespace Go.Proofs.YtmfhepjmmpnkaaaDoor
open Go.RowKit

theorem size_zeroCells (z : Array Value) (n : Nat) : (Builtin.zeroCells z n).size = n * z.size := by simp [Builtin.zeroCells]
set_option maxRecDepth 100000 in
set_option maxHeartbeats 1000000 in
theorem grow_nil (n : Nat) (hn : n ≤ 100000) (w : World) : Calls Tryd.prog 88 #[.slice none 0 0, .int .i64 n] w (OwnEnd [] w) := by
  rcases Nat.eq_zero_or_pos n with rfl | hpos
  · go_enter Tryd.func88, Tryd.ntmps88
    go_wp2_with fail
    go_ret
    exact ⟨_, rfl, OwnC.nil _ _, Below.refl _ _⟩
  · obtain ⟨i, hi, hz0, hz1, hz2⟩ := info_parts cell_info
    have hrun := fun ty => Lib.run_append_nil_zeros (P := Tryd.prog) w 43 3 ty 30 i (.agg (cv cell0)) .i64 .i64 Tryd.underlying43 Tryd.underlying3 hi hz0 n hpos (by omega) (by omega) (by rw [hz2]; omega)
    have HR := Lib.hid hrun
    clear hrun hi hz0 hz1 hz2
    go_enter Tryd.func88, Tryd.ntmps88
    go_wp2_with (at_builtin; refine Lib.wpList_append_run w rfl _ _ _ _ rfl _ _ rfl rfl _ _ (HR.out _) ?_)
    go_ret
    refine ⟨_, rfl, ?_, ((belA w _).drew)⟩
    exact own_mk (n := 0) (k := 16) (xs := flat []) (by simp [flat]) (Nat.le_refl _) (Nat.zero_le _) (grownCap_le_maxLen w n 0 30 (by simp only [maxLen]; omega)) (heap_alloc_new w _) (by have := grownCap_ge w n 0 30; simp [size_zeroCells, cv_size]; omega) (by simp [flat])
/-- How many cells the first k have, and which. -/
def catN (l0 l1 l2 : List Cell) : Nat → Nat
  | 0 => 0
  | 1 => l0.length
  | 2 => l0.length + l1.length
  | _ => l0.length + l1.length + l2.length
def catL (l0 l1 l2 : List Cell) : Nat → List Cell
  | 0 => []
  | 1 => l0
  | 2 => l0 ++ l1
  | _ => l0 ++ l1 ++ l2
theorem cat_len (l0 l1 l2 : List Cell) (k : Nat) : (catL l0 l1 l2 k).length = catN l0 l1 l2 k := by
  match k with
  | 0 => rfl
  | 1 => rfl
  | 2 => simp [catL, catN]
  | k + 3 => simp [catL, catN, Nat.add_assoc]
set_option maxRecDepth 100000 in
set_option maxHeartbeats 2000000 in
theorem concat_any (g : Nat) (A0 A1 A2 : Option Addr) (c0 c1 c2 : Nat) (l0 l1 l2 : List Cell) (w : World) (hb : Blk w g 43 #[.slice A0 l0.length c0, .slice A1 l1.length c1, .slice A2 l2.length c2]) (h0 : RdC w A0 c0 l0) (h1 : RdC w A1 c1 l1) (h2 : RdC w A2 c2 l2)
    (hn0 : l0.length ≤ 10000) (hn1 : l1.length ≤ 10000) (hn2 : l2.length ≤ 10000) :
    Calls Tryd.prog 83 #[.slice (some ⟨g, 0, none⟩) 3 3] w (OwnEnd (catL l0 l1 l2 3) w) := by
  have HK := Lib.hid hb
  have H0 := Lib.hid h0
  have H1 := Lib.hid h1
  have H2 := Lib.hid h2
  clear hb h0 h1 h2
  go_enter Tryd.func83, Tryd.ntmps83
  go_wp2_with fail
  go_loopw [3, 5, 11] (fun z _ i wr => ∃ k : Nat, k ≤ 3 ∧ z = .int .i64 (catN l0 l1 l2 k) ∧ i = .int .i64 k ∧ Below w.heap.size w wr) (fun _ _ i _ => 3 - (intOf i).toNat)
  case atStart => exact ⟨0, by omega, rfl, rfl, Below.refl _ _⟩
  case round =>
    obtain ⟨k, hk, rfl, rfl, hb⟩ := hrel
    have HB := Lib.hid hb
    clear hb
    have hk4 : k = 0 ∨ k = 1 ∨ k = 2 ∨ k = 3 := by omega
    rcases hk4 with hk0 | hk0 | hk0 | hk0
    · subst hk0
      obtain ⟨hx, hz⟩ : wr.cell? ⟨g, 0, none⟩ = some (.slice A0 l0.length c0) ∧ g < wr.heap.size := ⟨by rw [(HK.out.bel HB.out).cell]; rfl, (HK.out.bel HB.out).lt⟩
      have hN : catN l0 l1 l2 0 ≤ 30000 := by simp [catN]; try omega
      have HQ := Lib.hid (show catN l0 l1 l2 1 = catN l0 l1 l2 0 + l0.length by simp [catN])
      generalize catN l0 l1 l2 0 = N at hN HQ ⊢
      go_wp2_with fail
      go_roundw
      case rel => exact ⟨1, by omega, by rw [HQ.out]; go_num, rfl, HB.out⟩
      case measure => simp [intOf]
    · subst hk0
      obtain ⟨hx, hz⟩ : wr.cell? ⟨g, 1, none⟩ = some (.slice A1 l1.length c1) ∧ g < wr.heap.size := ⟨by rw [(HK.out.bel HB.out).cell]; rfl, (HK.out.bel HB.out).lt⟩
      have hN : catN l0 l1 l2 1 ≤ 30000 := by simp [catN]; try omega
      have HQ := Lib.hid (show catN l0 l1 l2 2 = catN l0 l1 l2 1 + l1.length by simp [catN])
      generalize catN l0 l1 l2 1 = N at hN HQ ⊢
      go_wp2_with fail
      go_roundw
      case rel => exact ⟨2, by omega, by rw [HQ.out]; go_num, rfl, HB.out⟩
      case measure => simp [intOf]
    · subst hk0
      obtain ⟨hx, hz⟩ : wr.cell? ⟨g, 2, none⟩ = some (.slice A2 l2.length c2) ∧ g < wr.heap.size := ⟨by rw [(HK.out.bel HB.out).cell]; rfl, (HK.out.bel HB.out).lt⟩
      have hN : catN l0 l1 l2 2 ≤ 30000 := by simp [catN]; try omega
      have HQ := Lib.hid (show catN l0 l1 l2 3 = catN l0 l1 l2 2 + l2.length by simp [catN])
      generalize catN l0 l1 l2 2 = N at hN HQ ⊢
      go_wp2_with fail
      go_roundw
      case rel => exact ⟨3, by omega, by rw [HQ.out]; go_num, rfl, HB.out⟩
      case measure => simp [intOf]
    · subst hk0
      have hN : catN l0 l1 l2 3 ≤ 100000 := by simp [catN]; omega
      generalize hq : catN l0 l1 l2 3 = N at hN
      clear hq
      go_wp2_with fail
      refine (grow_nil N hN _).mono ?_
      rintro e w1 ⟨v, rfl, ho, hb1⟩
      have HO1 := Lib.hid (ho.low HB.out.size)
      have HB1 := Lib.hid (HB.out.trans (hb1.mono HB.out.size))
      clear ho hb1
      obtain ⟨Av, cv', rfl, -⟩ := HO1.out.form
      go_wp2_with fail
      go_loopw [6, 8, 27] (fun v _ i wr => ∃ k : Nat, k ≤ 3 ∧ i = .int .i64 k ∧ OwnC wr w.heap.size v (catL l0 l1 l2 k) ∧ Below w.heap.size w wr) (fun _ _ i _ => 3 - (intOf i).toNat)
      case atStart => exact ⟨0, by omega, rfl, HO1.out, HB1.out⟩
      case round =>
        clear HB HO1 HB1
        obtain ⟨k, hk, rfl, ho, hb⟩ := hrel
        have HO := Lib.hid ho
        have HB := Lib.hid hb
        clear ho hb
        have hk4 : k = 0 ∨ k = 1 ∨ k = 2 ∨ k = 3 := by omega
        obtain ⟨Aw, cw, hvv, -⟩ := HO.out.form
        have HVV := Lib.hid hvv
        clear hvv
        rcases hk4 with hk0 | hk0 | hk0 | hk0
        · subst hk0
          obtain ⟨hx, hz⟩ : wr.cell? ⟨g, 0, none⟩ = some (.slice A0 l0.length c0) ∧ g < wr.heap.size := ⟨by rw [(HK.out.bel HB.out).cell]; rfl, (HK.out.bel HB.out).lt⟩
          go_wp2_with (at_builtin; (refine wpList_appC rfl _ _ rfl w.heap.size u6 (catL l0 l1 l2 0) rfl HO.out A0 c0 l0 rfl (H0.out.bel HB.out) (by rw [cat_len]; simp [catN]; omega) HB.out.size ?_); intro v1 w4 hown hg hat; rw [show catL l0 l1 l2 0 ++ l0 = catL l0 l1 l2 1 from by simp [catL]] at hown; have HO2 := Lib.hid hown; have HB2 := Lib.hid (HB.out.grown hg HB.out.size (fun q hq => own_from HO.out q hq)); clear hown hg hat)
          go_roundw
          case rel => exact ⟨1, by omega, rfl, HO2.out, HB2.out⟩
          case measure => simp [intOf]
        · subst hk0
          obtain ⟨hx, hz⟩ : wr.cell? ⟨g, 1, none⟩ = some (.slice A1 l1.length c1) ∧ g < wr.heap.size := ⟨by rw [(HK.out.bel HB.out).cell]; rfl, (HK.out.bel HB.out).lt⟩
          go_wp2_with (at_builtin; (refine wpList_appC rfl _ _ rfl w.heap.size u6 (catL l0 l1 l2 1) rfl HO.out A1 c1 l1 rfl (H1.out.bel HB.out) (by rw [cat_len]; simp [catN]; omega) HB.out.size ?_); intro v1 w4 hown hg hat; rw [show catL l0 l1 l2 1 ++ l1 = catL l0 l1 l2 2 from by simp [catL]] at hown; have HO2 := Lib.hid hown; have HB2 := Lib.hid (HB.out.grown hg HB.out.size (fun q hq => own_from HO.out q hq)); clear hown hg hat)
          go_roundw
          case rel => exact ⟨2, by omega, rfl, HO2.out, HB2.out⟩
          case measure => simp [intOf]
        · subst hk0
          obtain ⟨hx, hz⟩ : wr.cell? ⟨g, 2, none⟩ = some (.slice A2 l2.length c2) ∧ g < wr.heap.size := ⟨by rw [(HK.out.bel HB.out).cell]; rfl, (HK.out.bel HB.out).lt⟩
          go_wp2_with (at_builtin; (refine wpList_appC rfl _ _ rfl w.heap.size u6 (catL l0 l1 l2 2) rfl HO.out A2 c2 l2 rfl (H2.out.bel HB.out) (by rw [cat_len]; simp [catN]; omega) HB.out.size ?_); intro v1 w4 hown hg hat; rw [show catL l0 l1 l2 2 ++ l2 = catL l0 l1 l2 3 from by simp [catL]] at hown; have HO2 := Lib.hid hown; have HB2 := Lib.hid (HB.out.grown hg HB.out.size (fun q hq => own_from HO.out q hq)); clear hown hg hat)
          go_roundw
          case rel => exact ⟨3, by omega, rfl, HO2.out, HB2.out⟩
          case measure => simp [intOf]
        · subst hk0
          go_wp2_with fail
          go_ret
          exact ⟨_, rfl, HO.out, HB.out⟩
theorem concat3 (g : Nat) (A0 A1 A2 : Option Addr) (c0 c1 c2 : Nat) (l0 l1 l2 : List Cell) (w : World) (hb : Blk w g 43 #[.slice A0 l0.length c0, .slice A1 l1.length c1, .slice A2 l2.length c2]) (h0 : RdC w A0 c0 l0) (h1 : RdC w A1 c1 l1) (h2 : RdC w A2 c2 l2)
    (hn0 : l0.length ≤ 10000) (hn1 : l1.length ≤ 10000) (hn2 : l2.length ≤ 10000) :
    Calls Tryd.prog 83 #[.slice (some ⟨g, 0, none⟩) 3 3] w (OwnEnd (l0 ++ l1 ++ l2) w) := concat_any g A0 A1 A2 c0 c1 c2 l0 l1 l2 w hb h0 h1 h2 hn0 hn1 hn2
end Go.Proofs.YtmfhepjmmpnkaaaDoor
