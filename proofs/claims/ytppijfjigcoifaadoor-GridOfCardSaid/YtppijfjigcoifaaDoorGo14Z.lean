/-
  GridOf: the law returns true.
-/
import Derived.Test.YtppijfjigcoifaaDoorM5
import Derived.Test.YtppijfjigcoifaaDoorM4
set_option linter.unusedSimpArgs false
set_option linter.unusedVariables false
namespace Go.Proofs.YtppijfjigcoifaaDoor
open Go.RowKit

theorem mem_take1 {α : Type} {Ls : List α} {i : Nat} (h : i < Ls.length) {l : α} (hl : l ∈ Ls.take (i + 1)) : l ∈ Ls.take i ∨ l = Ls[i] := by
  rw [List.take_add_one, List.getElem?_eq_getElem h] at hl
  rcases List.mem_append.1 hl with h1 | h1
  · exact .inl h1
  · exact .inr (by simpa using h1)
set_option maxRecDepth 100000 in
set_option maxHeartbeats 8000000 in
theorem l14GridOf_no (cols : Int) (A : Option Addr) (c : Nat) (Ls : List Ln) (w : World) (hT : Tabs w) (ha : RdL w A c Ls) (hm : c ≤ maxLen) (hx : ∀ l ∈ Ls, l.1.length ≤ maxLen) (h10 : Ls.length ≤ 10) (hor : cols < 1 ∨ (1 ≤ cols ∧ 1000 < cols) ∨ ((1 ≤ cols ∧ cols ≤ 40) ∧ Ls.length < 1)) :
    Calls Tryd.prog 4 #[.int .i64 cols, .slice A Ls.length c] w fun e w' => e = .returned (.bool true) ∧ Below w.heap.size w w' := by
  have HT := Lib.hid hT
  have HA := Lib.hid ha
  have HX := Lib.hid hx
  have hlm : Ls.length ≤ 9223372036854775807 := by have := ha.1; unfold maxLen at hm; omega
  clear hT ha hm hx
  have HARG := Lib.hid (show Ls.length < 1 ∨ 1000 < Ls.length ∨ cols < 1 ∨ 1000 < cols by omega)
  have e0 : ¬ (10 : Int) < Ls.length := by omega
  rcases hor with h | ⟨h, h2⟩ | ⟨⟨h, h2⟩, h3⟩
  · have d1 : decide ((40 : Int) < cols) = false := decide_eq_false (by omega)
    have d2 : decide ((1 : Int) ≤ cols) = false := decide_eq_false (by omega)
    go_enter Tryd.func4, Tryd.ntmps4
    go_wp2_with fail
    go_loopw [5, 6] (fun vv vi wr => ∃ i : Nat, i ≤ Ls.length ∧ vv = .bool false ∧ vi = .int .i64 i ∧ Hid (∀ l ∈ Ls.take i, l.1.length ≤ 40) ∧ Objs w wr []) (fun _ vi _ => Ls.length - (intOf vi).toNat)
    case atStart => exact ⟨0, Nat.zero_le _, rfl, rfl, Lib.hid (fun l hl => by simp at hl), objs_start w⟩
    case round =>
    obtain ⟨i, hi, rfl, rfl, H40, hS⟩ := hrel
    have S := Lib.hid hS
    clear hS
    by_cases hlt : i < Ls.length
    case neg =>
      have HALL := Lib.hid (show ∀ l ∈ Ls, l.1.length ≤ 40 by have := H40.out; rwa [List.take_of_length_le (by omega)] at this)
      have hx40 := HALL.out
      go_wp2_with fail
      refine (copies_base A c Ls _ (HA.out.bel S.out.base) (by omega) (fun l hl => by have := hx40 l hl; omega)).mono ?_
      rintro e w3 ⟨v3, rfl, hS⟩
      have S3 := Lib.hid (S.out.nest hS)
      clear hS S hx40
      obtain ⟨A3, c3, rfl, hcm3, hr3⟩ := S3.out.linesRd (k := 0) rfl
      have HR3 := Lib.hid hr3
      clear hr3
      go_wp2_with fail
      refine (gridOf_arg A3 c3 Ls.length cols w3 hlm HARG.out).mono ?_
      rintro e w4 ⟨rfl, rfl⟩
      go_wp2_with fail
      refine (l14fails_any none 2 2 _).mono ?_
      rintro e w5 ⟨rfl, rfl⟩
      go_wp2_with fail
      refine (l14known_any _ (S3.out.tabs HT.out)).mono ?_
      rintro e w9 ⟨rfl, hb⟩
      have HB := Lib.hid (S3.out.bel hb).base
      clear hb
      go_wp2_with fail
      go_ret
      exact ⟨rfl, HB.out⟩
    obtain ⟨b, off, Ai, ci, rfl, hzb, hc1, hc2, hri⟩ := (HA.out.bel S.out.base).at_ (i := i) (l := Ls[i]) (by simp [hlt])
    have HRI := Lib.hid hri
    have hlen := HX.out Ls[i] (List.getElem_mem _)
    have hb0 : (0 : Int) ≤ (i : Int) := by omega
    have hb1 : (i : Int) < (Ls.length : Int) := by omega
    clear hri
    by_cases h40 : Ls[i].1.length ≤ 40
    case neg =>
      have hgt : (40 : Int) < Ls[i].1.length := by omega
      clear hlen
      go_wp2_with fail
      refine (l14known_any _ (S.out.tabs HT.out)).mono ?_
      rintro e w9 ⟨rfl, hb⟩
      have HB := Lib.hid (S.out.bel hb).base
      clear hb
      go_wp2_with fail
      go_ret
      exact ⟨rfl, HB.out⟩
    have hle : ¬ (40 : Int) < Ls[i].1.length := by omega
    clear hlen
    go_wp2_with fail
    go_roundw
    case rel => exact ⟨i + 1, by omega, rfl, by go_num, Lib.hid (fun l hl => (mem_take1 hlt hl).elim (H40.out l) (fun e => e ▸ h40)), S.out⟩
    case measure => simp [intOf]; omega
  · have d1 : decide ((40 : Int) < cols) = true := decide_eq_true (by omega)
    have d2 : decide (cols ≤ (1000 : Int)) = false := decide_eq_false (by omega)
    have d3 : decide ((1 : Int) ≤ cols) = true := decide_eq_true (by omega)
    go_enter Tryd.func4, Tryd.ntmps4
    go_wp2_with fail
    go_loopw [5, 6] (fun vv vi wr => ∃ i : Nat, i ≤ Ls.length ∧ vv = .bool false ∧ vi = .int .i64 i ∧ Hid (∀ l ∈ Ls.take i, l.1.length ≤ 40) ∧ Objs w wr []) (fun _ vi _ => Ls.length - (intOf vi).toNat)
    case atStart => exact ⟨0, Nat.zero_le _, rfl, rfl, Lib.hid (fun l hl => by simp at hl), objs_start w⟩
    case round =>
    obtain ⟨i, hi, rfl, rfl, H40, hS⟩ := hrel
    have S := Lib.hid hS
    clear hS
    by_cases hlt : i < Ls.length
    case neg =>
      have HALL := Lib.hid (show ∀ l ∈ Ls, l.1.length ≤ 40 by have := H40.out; rwa [List.take_of_length_le (by omega)] at this)
      have hx40 := HALL.out
      go_wp2_with fail
      refine (copies_base A c Ls _ (HA.out.bel S.out.base) (by omega) (fun l hl => by have := hx40 l hl; omega)).mono ?_
      rintro e w3 ⟨v3, rfl, hS⟩
      have S3 := Lib.hid (S.out.nest hS)
      clear hS S hx40
      obtain ⟨A3, c3, rfl, hcm3, hr3⟩ := S3.out.linesRd (k := 0) rfl
      have HR3 := Lib.hid hr3
      clear hr3
      go_wp2_with fail
      refine (gridOf_arg A3 c3 Ls.length cols w3 hlm HARG.out).mono ?_
      rintro e w4 ⟨rfl, rfl⟩
      go_wp2_with fail
      refine (l14fails_any none 2 2 _).mono ?_
      rintro e w5 ⟨rfl, rfl⟩
      go_wp2_with fail
      refine (l14known_any _ (S3.out.tabs HT.out)).mono ?_
      rintro e w9 ⟨rfl, hb⟩
      have HB := Lib.hid (S3.out.bel hb).base
      clear hb
      go_wp2_with fail
      go_ret
      exact ⟨rfl, HB.out⟩
    obtain ⟨b, off, Ai, ci, rfl, hzb, hc1, hc2, hri⟩ := (HA.out.bel S.out.base).at_ (i := i) (l := Ls[i]) (by simp [hlt])
    have HRI := Lib.hid hri
    have hlen := HX.out Ls[i] (List.getElem_mem _)
    have hb0 : (0 : Int) ≤ (i : Int) := by omega
    have hb1 : (i : Int) < (Ls.length : Int) := by omega
    clear hri
    by_cases h40 : Ls[i].1.length ≤ 40
    case neg =>
      have hgt : (40 : Int) < Ls[i].1.length := by omega
      clear hlen
      go_wp2_with fail
      refine (l14known_any _ (S.out.tabs HT.out)).mono ?_
      rintro e w9 ⟨rfl, hb⟩
      have HB := Lib.hid (S.out.bel hb).base
      clear hb
      go_wp2_with fail
      go_ret
      exact ⟨rfl, HB.out⟩
    have hle : ¬ (40 : Int) < Ls[i].1.length := by omega
    clear hlen
    go_wp2_with fail
    go_roundw
    case rel => exact ⟨i + 1, by omega, rfl, by go_num, Lib.hid (fun l hl => (mem_take1 hlt hl).elim (H40.out l) (fun e => e ▸ h40)), S.out⟩
    case measure => simp [intOf]; omega
  · have d1 : decide ((40 : Int) < cols) = false := decide_eq_false (by omega)
    have d2 : decide (cols ≤ (1000 : Int)) = true := decide_eq_true (by omega)
    have d3 : decide ((1 : Int) ≤ cols) = true := decide_eq_true (by omega)
    have d4 : decide ((1 : Int) ≤ (Ls.length : Int)) = false := decide_eq_false (by omega)
    have d5 : decide (1 ≤ Ls.length) = false := decide_eq_false (by omega)
    go_enter Tryd.func4, Tryd.ntmps4
    go_wp2_with fail
    go_loopw [5, 6] (fun vv vi wr => ∃ i : Nat, i ≤ Ls.length ∧ vv = .bool false ∧ vi = .int .i64 i ∧ Hid (∀ l ∈ Ls.take i, l.1.length ≤ 40) ∧ Objs w wr []) (fun _ vi _ => Ls.length - (intOf vi).toNat)
    case atStart => exact ⟨0, Nat.zero_le _, rfl, rfl, Lib.hid (fun l hl => by simp at hl), objs_start w⟩
    case round =>
    obtain ⟨i, hi, rfl, rfl, H40, hS⟩ := hrel
    have S := Lib.hid hS
    clear hS
    by_cases hlt : i < Ls.length
    case neg =>
      have HALL := Lib.hid (show ∀ l ∈ Ls, l.1.length ≤ 40 by have := H40.out; rwa [List.take_of_length_le (by omega)] at this)
      have hx40 := HALL.out
      go_wp2_with fail
      refine (copies_base A c Ls _ (HA.out.bel S.out.base) (by omega) (fun l hl => by have := hx40 l hl; omega)).mono ?_
      rintro e w3 ⟨v3, rfl, hS⟩
      have S3 := Lib.hid (S.out.nest hS)
      clear hS S hx40
      obtain ⟨A3, c3, rfl, hcm3, hr3⟩ := S3.out.linesRd (k := 0) rfl
      have HR3 := Lib.hid hr3
      clear hr3
      go_wp2_with fail
      refine (gridOf_arg A3 c3 Ls.length cols w3 hlm HARG.out).mono ?_
      rintro e w4 ⟨rfl, rfl⟩
      go_wp2_with fail
      refine (l14fails_any none 2 2 _).mono ?_
      rintro e w5 ⟨rfl, rfl⟩
      go_wp2_with fail
      refine (l14known_any _ (S3.out.tabs HT.out)).mono ?_
      rintro e w9 ⟨rfl, hb⟩
      have HB := Lib.hid (S3.out.bel hb).base
      clear hb
      go_wp2_with fail
      go_ret
      exact ⟨rfl, HB.out⟩
    omega
set_option maxRecDepth 100000 in
set_option maxHeartbeats 8000000 in
theorem l14GridOf_yes (s : Nat) (A : Option Addr) (c : Nat) (Ls : List Ln) (w : World) (hT : Tabs w) (ha : RdL w A c Ls) (hm : c ≤ maxLen) (hx : ∀ l ∈ Ls, l.1.length ≤ maxLen) (h10 : Ls.length ≤ 10) (h1 : 1 ≤ s) (h40 : s ≤ 40) (h3 : 1 ≤ Ls.length) :
    Calls Tryd.prog 4 #[.int .i64 s, .slice A Ls.length c] w fun e w' => e = .returned (.bool true) ∧ Below w.heap.size w w' := by
  have HT := Lib.hid hT
  have HA := Lib.hid ha
  have HX := Lib.hid hx
  have hlm : Ls.length ≤ 9223372036854775807 := by have := ha.1; unfold maxLen at hm; omega
  clear hT ha hm hx
  have h2 : s ≤ 1000 := by omega
  have e0 : ¬ (10 : Int) < Ls.length := by omega
  have e1 : ¬ (40 : Int) < s := by omega
  have e2 : (1 : Int) ≤ s := by omega
  have e3 : (s : Int) ≤ 1000 := by omega
  have e4 : (1 : Int) ≤ Ls.length := by omega
  go_enter Tryd.func4, Tryd.ntmps4
  go_wp2_with fail
  go_loopw [5, 6] (fun vv vi wr => ∃ i : Nat, i ≤ Ls.length ∧ vv = .bool ((Ls.take i).all fun l => lineOk l.1) ∧ vi = .int .i64 i ∧ Hid (∀ l ∈ Ls.take i, l.1.length ≤ 40) ∧ Objs w wr []) (fun _ vi _ => Ls.length - (intOf vi).toNat)
  case atStart => exact ⟨0, Nat.zero_le _, rfl, rfl, Lib.hid (fun l hl => by simp at hl), objs_start w⟩
  case round =>
  obtain ⟨i, hi, rfl, rfl, H40, hS⟩ := hrel
  have S := Lib.hid hS
  clear hS
  by_cases hlt : i < Ls.length
  case neg =>
    have HALL := Lib.hid (show ∀ l ∈ Ls, l.1.length ≤ 40 by have := H40.out; rwa [List.take_of_length_le (by omega)] at this)
    cases hall : Ls.all (fun l => lineOk l.1) with
    | false =>
      have HTK := Lib.hid (show ((Ls.take i).all fun l => lineOk l.1) = false by rw [List.take_of_length_le (by omega)]; exact hall)
      rw [HTK.out]
      have hx40 := HALL.out
      have HV := Lib.hid hall
      clear hall
      go_wp2_with fail
      refine (copies_base A c Ls _ (HA.out.bel S.out.base) (by omega) (fun l hl => by have := hx40 l hl; omega)).mono ?_
      rintro e w3 ⟨v3, rfl, hS⟩
      have S3 := Lib.hid (S.out.nest hS)
      clear hS S hx40
      obtain ⟨A3, c3, rfl, hcm3, hr3⟩ := S3.out.linesRd (k := 0) rfl
      have HR3 := Lib.hid hr3
      clear hr3
      go_wp2_with fail
      refine (gridOf_bad A3 c3 Ls s w3 (S3.out.tabs HT.out) HR3.out h1 h2 h3 (by omega) (fun l hl => by have := HALL.out l hl; omega) (by
        obtain ⟨l, hl, hv⟩ := List.all_eq_false.1 HV.out
        exact ⟨l, hl, by simpa using hv⟩)).mono ?_
      rintro e w4 ⟨rfl, hb⟩
      have S4 := Lib.hid (S3.out.bel hb)
      clear hb S3
      go_wp2_with fail
      refine (l14fails_any none 2 2 _).mono ?_
      rintro e w5 ⟨rfl, rfl⟩
      go_wp2_with fail
      refine (l14known_any _ (S4.out.tabs HT.out)).mono ?_
      rintro e w9 ⟨rfl, hb⟩
      have HB := Lib.hid (S4.out.bel hb).base
      clear hb
      go_wp2_with fail
      go_ret
      exact ⟨rfl, HB.out⟩
    | true =>
      have HTK := Lib.hid (show ((Ls.take i).all fun l => lineOk l.1) = true by rw [List.take_of_length_le (by omega)]; exact hall)
      rw [HTK.out]
      have hx40 := HALL.out
      have HV := Lib.hid (show ∀ l ∈ Ls, lineOk l.1 = true from fun l hl => by simpa using List.all_eq_true.1 hall l hl)
      clear hall
      go_wp2_with fail
      refine (copies_base A c Ls _ (HA.out.bel S.out.base) (by omega) (fun l hl => by have := hx40 l hl; omega)).mono ?_
      rintro e w3 ⟨v3, rfl, hS⟩
      have S3 := Lib.hid (S.out.nest hS)
      clear hS S hx40
      obtain ⟨A3, c3, rfl, hcm3, hr3⟩ := S3.out.linesRd (k := 0) rfl
      have HR3 := Lib.hid hr3
      clear hr3
      go_wp2_with fail
      refine (gridOf_yes A3 c3 Ls s w3 (S3.out.tabs HT.out) HR3.out h1 h2 h3 (by omega) (fun l hl => by have := HALL.out l hl; omega) HV.out).mono ?_
      rintro e w4 ⟨pg, rfl, hS⟩
      have S4 := Lib.hid (show Objs w w4 [.grid pg 58 ↑s (Ls.map (fun l : Ln => (fitTo s l.1, l.2)))] from (S3.out.nest hS).drop2)
      clear hS S3 HR3
      go_wp2_with fail
      have S5 := Lib.hid (S4.out.alloc1 (c1 := #[.int .i64 ↑s, .slice none 0 0]) (t1 := 33)).nilLines
      generalize w4.heap.size = p at S5 ⊢
      clear S4
      go_loopw [10, 11, 12] (fun vi _ _ wr => ∃ (i : Nat) (v : Value), i ≤ Ls.length ∧ vi = .int .i64 i ∧ Objs w wr [.lines v ((Ls.take i).map (fun l : Ln => (fitTo s l.1, l.2))), .box p 33 #[.int .i64 ↑s, v], .grid pg 58 ↑s (Ls.map (fun l : Ln => (fitTo s l.1, l.2)))]) (fun vi _ _ _ => Ls.length - (intOf vi).toNat)
      case atStart => exact ⟨0, _, Nat.zero_le _, rfl, S5.out⟩
      case round =>
      clear S5
      obtain ⟨i, v, hi, rfl, hS⟩ := hrel
      have S := Lib.hid hS
      clear hS
      by_cases hlt : i < Ls.length
      case neg =>
        obtain rfl : i = Ls.length := by omega
        obtain ⟨G, hG⟩ : ∃ G, G = Ls.map (fun l : Ln => (fitTo s l.1, l.2)) := ⟨_, rfl⟩
        have HGR := Lib.hid (show Rect s G by rw [hG]; intro l hl; obtain ⟨y, hy, rfl⟩ := List.mem_map.1 hl; exact fitTo_length _ _)
        have HGV := Lib.hid (show AllV G by rw [hG]; intro l hl; obtain ⟨y, hy, rfl⟩ := List.mem_map.1 hl; exact rowOk_is.1 (fit_row _ (ok_row (HV.out y hy))))
        have hgl : G.length ≤ 1000 := by rw [hG, List.length_map]; omega
        have SG := Lib.hid (show Objs w _ [.grid p 33 ↑s G, .grid pg 58 ↑s G] from by have h := S.out.closeGrid (k := 0) rfl; rw [List.take_length, ← hG] at h; exact h)
        clear S hG
        go_wp2_with fail
        refine (l14alike_any HT.out SG.out (k := 1) (j := 0) rfl rfl (by omega) h2 HGR.out HGV.out hgl).mono ?_
        rintro e w5 ⟨rfl, hS⟩
        have S6 := Lib.hid hS
        clear hS SG
        go_wp2_with fail
        refine (l14known_any _ (S6.out.tabs HT.out)).mono ?_
        rintro e w9 ⟨rfl, hb⟩
        have HB := Lib.hid (S6.out.bel hb).base
        clear hb
        go_wp2_with fail
        go_ret
        exact ⟨rfl, HB.out⟩
      have HL := Lib.hid (show Ls[i]? = some Ls[i] by simp [hlt])
      have HLL := Lib.hid (show (((Ls.take i).map (fun l : Ln => (fitTo s l.1, l.2)))).length ≤ 1000000 by simp; omega)
      have HLI := Lib.hid (show Ls[i].1.length ≤ 100000 by have := HALL.out Ls[i] (List.getElem_mem _); omega)
      have HVI := Lib.hid (HV.out Ls[i] (List.getElem_mem _))
      obtain ⟨b, off, Ai, ci, rfl, hzb, hc1, hc2, hri⟩ := (HA.out.bel S.out.base).at_ HL.out
      have HRI := Lib.hid hri
      have hb0 : (0 : Int) ≤ (i : Int) := by omega
      have hb1 : (i : Int) < (Ls.length : Int) := by omega
      clear hri
      go_wp2_with fail
      refine (lineFit_yes Ai ci Ls[i].1 Ls[i].2 s h2 _ (S.out.tabs HT.out) HRI.out HLI.out HVI.out).mono ?_
      rintro e w5 ⟨v5, rfl, ho, hb⟩
      have hS := S.out.newCells hb ho
      obtain ⟨Af, cf, rfl, -⟩ := hS.cellsRd (k := 0) rfl
      rw [fitTo_length] at hS
      have S2 := Lib.hid (hS.alloc1 (c1 := #[.slice Af s cf, .bool Ls[i].2]) (t1 := 39))
      simp only [fitTo_length]
      clear hS ho hb S HRI hzb hc1 hc2
      obtain ⟨hx5, hf5, hz5⟩ := (S2.out.box (k := 0) rfl).facts
      go_upto_region 20 with (fail)
      clear hx5 hf5 hz5
      generalize w5.heap.size = bl at S2 ⊢
      obtain ⟨sf, hsf⟩ : ∃ sf, sf = Ls[i].2 := ⟨_, rfl⟩
      rw [← hsf] at S2 ⊢
      have HSF := Lib.hid hsf.symm
      clear hsf
      have SX := Lib.hid (show Objs w _ (.none :: .lines v ((Ls.take i).map (fun l : Ln => (fitTo s l.1, l.2))) :: .box p 33 #[.int .i64 ↑s, v] :: .box bl 39 #[.slice Af s cf, .bool sf] :: .cells (.slice Af s cf) (fitTo s Ls[i].1) :: [.grid pg 58 ↑s (Ls.map (fun l : Ln => (fitTo s l.1, l.2)))]) from (Objs.pick (σ := [_, _, _, _]) (os := [.grid pg 58 ↑s (Ls.map (fun l : Ln => (fitTo s l.1, l.2)))]) S2.out [none, some 2, some 3, some 0, some 1] (by decide) rfl))
      clear S2
      refine wp_region_stage (w0 := w) (os := [.grid pg 58 ↑s (Ls.map (fun l : Ln => (fitTo s l.1, l.2)))]) (by kernel_rfl) (by kernel_rfl) (by kernel_rfl) [(0, 6, [6], fun vs => .box (blkOf (vs 6)) 39 #[.slice Af s cf, .bool sf]), (1, 7, [7], fun vs => .lines (vs 7) (((Ls.take i).map (fun l : Ln => (fitTo s l.1, l.2))) ++ [((fitTo s Ls[i].1), sf)])), (4, 7, [], fun vs => .none), (2, 10, [7], fun vs => .box p 33 #[.int .i64 ↑s, vs 7])] [[], [], [], [], [2], [3], [0], [0, 1, 4], [], [], [2]] [.none, .lines v ((Ls.take i).map (fun l : Ln => (fitTo s l.1, l.2))), .box p 33 #[.int .i64 ↑s, v], .box bl 39 #[.slice Af s cf, .bool sf], .cells (.slice Af s cf) (fitTo s Ls[i].1)] (fun opn u => match opn with | 0 => u = (.pointer (some ⟨p, 0, none⟩) : Value) | 1 => u = (.pointer (some ⟨p, 0, none⟩) : Value) | 2 => u = (.pointer (some ⟨p, 0, none⟩) : Value) | 3 => u = (.pointer (some ⟨p, 1, none⟩) : Value) | 4 => u = (v : Value) | 5 => u = (.agg #[.slice Af s cf, .bool sf] : Value) | 6 => ∃ g, u = .slice (some ⟨g, 0, none⟩) 1 1 | 7 => ∃ A n c, u = .slice A n c | 8 => u = (.pointer (some ⟨p, 0, none⟩) : Value) | 9 => u = (.pointer (some ⟨p, 1, none⟩) : Value) | 10 => True | _ => True) (fun vs => [.box (blkOf (vs 6)) 39 #[.slice Af s cf, .bool sf], .lines (vs 7) (((Ls.take i).map (fun l : Ln => (fitTo s l.1, l.2))) ++ [((fitTo s Ls[i].1), sf)]), .box p 33 #[.int .i64 ↑s, vs 7], .box bl 39 #[.slice Af s cf, .bool sf], .none]) (by kernel_rfl) (fun vs => by rfl) SX.out ?_ ?_
      · refine SSteps.cons (fun a w' vs σ hS hl hs hk => ?_) ?_
        · have e9 : a.tmps.getD 9 undef = (.pointer (some ⟨p, 0, none⟩) : Value) := (sk_old hk 9 (by kernel_rfl)).trans rfl
          have f9 := gd e9
          exact ro_pure (v := .pointer (some ⟨p, 0, none⟩)) (wanted_none rfl) (by simp [execOp, Act.eval, e9, f9, go_sem]) (sp_same (by kernel_rfl) hl hs hS (show (.pointer (some ⟨p, 0, none⟩) : Value) = _ from rfl)) trivial
        refine SSteps.cons (fun a w' vs σ hS hl hs hk => ?_) ?_
        · have e9 : a.tmps.getD 9 undef = (.pointer (some ⟨p, 0, none⟩) : Value) := (sk_old hk 9 (by kernel_rfl)).trans rfl
          have f9 := gd e9
          exact ro_pure (v := .pointer (some ⟨p, 0, none⟩)) (wanted_none rfl) (by simp [execOp, Act.eval, e9, f9, go_sem]) (sp_same (by kernel_rfl) hl hs hS (show (.pointer (some ⟨p, 0, none⟩) : Value) = _ from rfl)) trivial
        refine SSteps.cons (fun a w' vs σ hS hl hs hk => ?_) ?_
        · have e101 : a.tmps.getD 101 undef = (.pointer (some ⟨p, 0, none⟩) : Value) := (sk_val hk 1 (by kernel_rfl) rfl rfl).trans ((hk.1 1 (by kernel_rfl)).1)
          have f101 := gd e101
          exact ro_pure (v := .pointer (some ⟨p, 0, none⟩)) (wanted_none rfl) (by simp [execOp, Act.eval, e101, f101, go_sem]) (sp_same (by kernel_rfl) hl hs hS (show (.pointer (some ⟨p, 0, none⟩) : Value) = _ from rfl)) trivial
        refine SSteps.cons (fun a w' vs σ hS hl hs hk => ?_) ?_
        · have e102 : a.tmps.getD 102 undef = (.pointer (some ⟨p, 0, none⟩) : Value) := (sk_val hk 2 (by kernel_rfl) rfl rfl).trans ((hk.1 2 (by kernel_rfl)).1)
          have f102 := gd e102
          exact ro_pure (v := .pointer (some ⟨p, 1, none⟩)) (wanted_none rfl) (by simp [execOp, Act.eval, e102, f102, go_sem]) (sp_same (by kernel_rfl) hl hs hS (show (.pointer (some ⟨p, 1, none⟩) : Value) = _ from rfl)) trivial
        refine SSteps.cons (fun a w' vs σ hS hl hs hk => ?_) ?_
        · have e103 : a.tmps.getD 103 undef = (.pointer (some ⟨p, 1, none⟩) : Value) := (sk_val hk 3 (by kernel_rfl) rfl rfl).trans ((hk.1 3 (by kernel_rfl)).1)
          have f103 := gd e103
          have hx := (hS.box (sg (hs 2 (by decide)))).cell
          exact ro_pure (v := v) (wanted_none rfl) (by simp [execOp, Act.eval, e103, f103, go_sem, hx]) (sp_same (by kernel_rfl) hl hs hS (show (v : Value) = _ from rfl)) trivial
        refine SSteps.cons (fun a w' vs σ hS hl hs hk => ?_) ?_
        · have e11 : a.tmps.getD 11 undef = (.pointer (some ⟨bl, 0, none⟩) : Value) := (sk_old hk 11 (by kernel_rfl)).trans rfl
          have f11 := gd e11
          have hx := (hS.box (sg (hs 3 (by decide)))).cell
          exact ro_pure (v := .agg #[.slice Af s cf, .bool sf]) (wanted_none rfl) (by simp [execOp, Act.eval, e11, f11, go_sem, hx]) (sp_same (by kernel_rfl) hl hs hS (show (.agg #[.slice Af s cf, .bool sf] : Value) = _ from rfl)) trivial
        refine SSteps.cons (fun a w' vs σ hS hl hs hk => ?_) ?_
        · have e105 : a.tmps.getD 105 undef = (.agg #[.slice Af s cf, .bool sf] : Value) := (sk_val hk 5 (by kernel_rfl) rfl rfl).trans ((hk.1 5 (by kernel_rfl)).1)
          have f105 := gd e105
          have h1 : σ[0]? = some .none := hs 0 (by decide)
          exact rs_run (wanted_none rfl) (exec_bsl rfl (by simp [Act.eval, e105, f105]) (run_bsl (.slice Af s cf) sf w')) (sp_set 0 (.box w'.heap.size 39 #[.slice Af s cf, .bool sf]) (by kernel_rfl) (by simp) (by decide) hl hs (by rfl) (hS.alloc1.place (sg h1)) ⟨_, rfl⟩)
        refine SSteps.cons (fun a w' vs σ hS hl hs hk => ?_) ?_
        · have e104 : a.tmps.getD 104 undef = (v : Value) := (sk_val hk 4 (by kernel_rfl) rfl rfl).trans ((hk.1 4 (by kernel_rfl)).1)
          have f104 := gd e104
          have e106 : a.tmps.getD 106 undef = vs 6 := sk_val hk 6 (by kernel_rfl) rfl rfl
          have p106 : (fun u : Value => ∃ g, u = .slice (some ⟨g, 0, none⟩) 1 1) (vs 6) := (hk.1 6 (by kernel_rfl)).1
          have f106 := gd e106
          have h2 : σ[1]? = some (.lines v ((Ls.take i).map (fun l : Ln => (fitTo s l.1, l.2)))) := hs 1 (by decide)
          have h0 : σ[4]? = some (.cells (.slice Af s cf) (fitTo s Ls[i].1)) := hs 4 (by decide)
          have h1 : σ[0]? = some (.box (blkOf (vs 6)) 39 #[.slice Af s cf, .bool sf]) := hs 0 (by decide)
          obtain ⟨g8, hg8⟩ := p106
          rw [hg8, show blkOf (.slice (some ⟨g8, 0, none⟩) 1 1) = g8 from rfl] at h1
          obtain ⟨v9, w9, hr, hS2, A9, c9, hv9⟩ := run_appL hS (k := 1) (j := 4) (ad := ⟨g8, 0, none⟩) (c := 1) (s := sf) (sg h2) (sg h0) (by decide) (by rw [(hS.box (sg h1)).cell]; rfl) (by rw [add_at, (hS.box (sg h1)).cell]; rfl) HLL.out 30
          exact rs_run (wanted_none rfl) (exec_app rfl (by simp only [Act.eval]; exact e104) (by simp only [Act.eval]; exact e106.trans hg8) hr) (sp_set2 1 4 (.lines v9 (((Ls.take i).map (fun l : Ln => (fitTo s l.1, l.2))) ++ [((fitTo s Ls[i].1), sf)])) .none (by decide) (by kernel_rfl) (by simp) (by simp) (by decide) (by decide) hl hs (by rfl) (by rfl) hS2 ⟨A9, _, c9, hv9⟩)
        refine SSteps.cons (fun a w' vs σ hS hl hs hk => ?_) ?_
        · have e100 : a.tmps.getD 100 undef = (.pointer (some ⟨p, 0, none⟩) : Value) := (sk_val hk 0 (by kernel_rfl) rfl rfl).trans ((hk.1 0 (by kernel_rfl)).1)
          have f100 := gd e100
          exact ro_pure (v := .pointer (some ⟨p, 0, none⟩)) (wanted_none rfl) (by simp [execOp, Act.eval, e100, f100, go_sem]) (sp_same (by kernel_rfl) hl hs hS (show (.pointer (some ⟨p, 0, none⟩) : Value) = _ from rfl)) trivial
        refine SSteps.cons (fun a w' vs σ hS hl hs hk => ?_) ?_
        · have e108 : a.tmps.getD 108 undef = (.pointer (some ⟨p, 0, none⟩) : Value) := (sk_val hk 8 (by kernel_rfl) rfl rfl).trans ((hk.1 8 (by kernel_rfl)).1)
          have f108 := gd e108
          exact ro_pure (v := .pointer (some ⟨p, 1, none⟩)) (wanted_none rfl) (by simp [execOp, Act.eval, e108, f108, go_sem]) (sp_same (by kernel_rfl) hl hs hS (show (.pointer (some ⟨p, 1, none⟩) : Value) = _ from rfl)) trivial
        refine SSteps.cons (fun a w' vs σ hS hl hs hk => ?_) ?_
        · have e109 : a.tmps.getD 109 undef = (.pointer (some ⟨p, 1, none⟩) : Value) := (sk_val hk 9 (by kernel_rfl) rfl rfl).trans ((hk.1 9 (by kernel_rfl)).1)
          have f109 := gd e109
          have e107 : a.tmps.getD 107 undef = vs 7 := sk_val hk 7 (by kernel_rfl) rfl rfl
          have p107 : (fun u : Value => ∃ A n c, u = .slice A n c) (vs 7) := (hk.1 7 (by kernel_rfl)).1
          have f107 := gd e107
          have h3 : σ[2]? = some (.box p 33 #[.int .i64 ↑s, v]) := hs 2 (by decide)
          obtain ⟨hx, hf, hz⟩ := (hS.box (sg h3)).facts
          obtain ⟨A9, n9, c9, q9⟩ := p107
          exact rstep_store (w2 := w'.setCell ⟨p, 1, none⟩ (.slice A9 n9 c9)) (wanted_none rfl) rfl (by simp [execOp, Act.eval, e109, f109, e107, f107, q9, hx, hf, hz, go_sem]) (sp_set 2 (.box p 33 #[.int .i64 ↑s, vs 7]) (by kernel_rfl) (by simp) (by decide) hl hs (by rfl) (by rw [q9]; exact hS.setBox 2 (sg h3)) trivial) trivial
        exact SSteps.nil
      · intro vs w' hS hv
        have q0 := (show vs 0 = (.pointer (some ⟨p, 0, none⟩) : Value) from hv 0 (by decide))
        have q1 := (show vs 1 = (.pointer (some ⟨p, 0, none⟩) : Value) from hv 1 (by decide))
        have q2 := (show vs 2 = (.pointer (some ⟨p, 0, none⟩) : Value) from hv 2 (by decide))
        have q3 := (show vs 3 = (.pointer (some ⟨p, 1, none⟩) : Value) from hv 3 (by decide))
        have q4 := (show vs 4 = (v : Value) from hv 4 (by decide))
        have q5 := (show vs 5 = (.agg #[.slice Af s cf, .bool sf] : Value) from hv 5 (by decide))
        have q8 := (show vs 8 = (.pointer (some ⟨p, 0, none⟩) : Value) from hv 8 (by decide))
        have q9 := (show vs 9 = (.pointer (some ⟨p, 1, none⟩) : Value) from hv 9 (by decide))
        have S2 := Lib.hid hS
        simp only [putL, Act.put, Nat.zero_add, Nat.reduceAdd, List.setIfInBounds_toArray, List.set_cons_succ, List.set_cons_zero, q0, q1, q2, q3, q4, q5, q8, q9]
        clear hS hv q0 q1 q2 q3 q4 q5 q8 q9
        have S9 := Lib.hid (show Objs w _ [.lines (vs 7) ((Ls.take (i + 1)).map (fun l : Ln => (fitTo s l.1, l.2))), .box p 33 #[.int .i64 ↑s, vs 7], .grid pg 58 ↑s (Ls.map (fun l : Ln => (fitTo s l.1, l.2)))] from by
          have h := (Objs.pick (σ := [_, _, _, _, _]) (os := [.grid pg 58 ↑s (Ls.map (fun l : Ln => (fitTo s l.1, l.2)))]) (show Objs w _ (_ :: _ :: _ :: _ :: _ :: [.grid pg 58 ↑s (Ls.map (fun l : Ln => (fitTo s l.1, l.2)))]) from S2.out) [some 1, some 2] (by decide) rfl)
          rw [fit_snoc hlt (by rw [← HSF.out])] at h
          exact h)
        clear S2 SX
        go_wp2_with fail
        go_roundw
        case rel => exact ⟨i + 1, vs 7, by omega, by go_num, S9.out⟩
        case measure => simp [intOf]; omega
  obtain ⟨b, off, Ai, ci, rfl, hzb, hc1, hc2, hri⟩ := (HA.out.bel S.out.base).at_ (i := i) (l := Ls[i]) (by simp [hlt])
  have HRI := Lib.hid hri
  have hlen := HX.out Ls[i] (List.getElem_mem _)
  have hb0 : (0 : Int) ≤ (i : Int) := by omega
  have hb1 : (i : Int) < (Ls.length : Int) := by omega
  clear hri
  by_cases h40 : Ls[i].1.length ≤ 40
  case neg =>
    have hgt : (40 : Int) < Ls[i].1.length := by omega
    clear hlen
    go_wp2_with fail
    refine (l14known_any _ (S.out.tabs HT.out)).mono ?_
    rintro e w9 ⟨rfl, hb⟩
    have HB := Lib.hid (S.out.bel hb).base
    clear hb
    go_wp2_with fail
    go_ret
    exact ⟨rfl, HB.out⟩
  have hle : ¬ (40 : Int) < Ls[i].1.length := by omega
  clear hlen
  cases hvb : (Ls.take i).all (fun l => lineOk l.1) with
  | false =>
    have HN := Lib.hid (show ((Ls.take (i + 1)).all fun l => lineOk l.1) = false by rw [List.take_add_one, List.all_append, hvb]; rfl)
    clear hvb
    go_wp2_with fail
    go_roundw
    case rel => exact ⟨i + 1, by omega, by rw [HN.out], by go_num, Lib.hid (fun l hl => (mem_take1 hlt hl).elim (H40.out l) (fun e => e ▸ h40)), S.out⟩
    case measure => simp [intOf]; omega
  | true =>
    have HN := Lib.hid (show ((Ls.take (i + 1)).all fun l => lineOk l.1) = lineOk Ls[i].1 by rw [List.take_add_one, List.all_append, hvb, List.getElem?_eq_getElem hlt]; simp)
    clear hvb
    go_wp2_with fail
    cases hvi : lineOk Ls[i].1 with
    | true =>
      refine (lvalid_is hvi Ai ci Ls[i].2 _ (S.out.tabs HT.out) HRI.out (by omega)).mono ?_
      rintro e w2 ⟨rfl, hb⟩
      have S2 := Lib.hid (S.out.bel hb)
      have HVI := Lib.hid hvi
      clear hb S HRI hzb hc1 hc2 hvi
      go_wp2_with fail
      go_roundw
      case rel => exact ⟨i + 1, by omega, by rw [HN.out, HVI.out], by go_num, Lib.hid (fun l hl => (mem_take1 hlt hl).elim (H40.out l) (fun e => e ▸ h40)), S2.out⟩
      case measure => simp [intOf]; omega
    | false =>
      refine (lvalid_is hvi Ai ci Ls[i].2 _ (S.out.tabs HT.out) HRI.out (by omega)).mono ?_
      rintro e w2 ⟨rfl, hb⟩
      have S2 := Lib.hid (S.out.bel hb)
      have HVI := Lib.hid hvi
      clear hb S HRI hzb hc1 hc2 hvi
      go_wp2_with fail
      go_roundw
      case rel => exact ⟨i + 1, by omega, by rw [HN.out, HVI.out], by go_num, Lib.hid (fun l hl => (mem_take1 hlt hl).elim (H40.out l) (fun e => e ▸ h40)), S2.out⟩
      case measure => simp [intOf]; omega
theorem l14GridOf_any (cols : Int) (A : Option Addr) (c : Nat) (Ls : List Ln) (w : World) (hT : Tabs w) (ha : RdL w A c Ls) (hm : c ≤ maxLen) (hx : ∀ l ∈ Ls, l.1.length ≤ maxLen) : Calls Tryd.prog 4 #[.int .i64 cols, .slice A Ls.length c] w fun e w' => e = .returned (.bool true) ∧ Below w.heap.size w w' := by
  by_cases h10 : Ls.length ≤ 10
  case neg =>
    have HT := Lib.hid hT
    have hlm : Ls.length ≤ 9223372036854775807 := by have := ha.1; unfold maxLen at hm; omega
    have e0 : (10 : Int) < Ls.length := by omega
    clear hT ha hm hx
    have S := Lib.hid (objs_start w)
    go_enter Tryd.func4, Tryd.ntmps4
    go_wp2_with fail
    refine (l14known_any _ (S.out.tabs HT.out)).mono ?_
    rintro e w9 ⟨rfl, hb⟩
    have HB := Lib.hid (S.out.bel hb).base
    clear hb
    go_wp2_with fail
    go_ret
    exact ⟨rfl, HB.out⟩
  by_cases h40 : 40 < cols ∧ cols ≤ 1000
  · have HT := Lib.hid hT
    have e0 : ¬ (10 : Int) < Ls.length := by omega
    have e1 : (40 : Int) < cols := h40.1
    have e2 : cols ≤ (1000 : Int) := h40.2
    clear hT ha hm hx h40
    have S := Lib.hid (objs_start w)
    go_enter Tryd.func4, Tryd.ntmps4
    go_wp2_with fail
    refine (l14known_any _ (S.out.tabs HT.out)).mono ?_
    rintro e w9 ⟨rfl, hb⟩
    have HB := Lib.hid (S.out.bel hb).base
    clear hb
    go_wp2_with fail
    go_ret
    exact ⟨rfl, HB.out⟩
  by_cases hv : 1 ≤ cols ∧ cols ≤ 40 ∧ 1 ≤ Ls.length
  · obtain ⟨s, rfl⟩ : ∃ s : Nat, cols = s := ⟨cols.toNat, by omega⟩
    exact l14GridOf_yes s A c Ls w hT ha hm hx h10 (by omega) (by omega) (by omega)
  · exact l14GridOf_no cols A c Ls w hT ha hm hx h10 (by omega)
end Go.Proofs.YtppijfjigcoifaaDoor
